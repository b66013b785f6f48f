import Derived.Test.YtdpflafjfkooeaaDoorA7b
namespace Go.Proofs.YtdpflafjfkooeaaDoorG
open Go Go.RowKit Go.Proofs
set_option linter.unusedSimpArgs false
set_option linter.unusedVariables false
set_option maxRecDepth 10000 in
set_option maxHeartbeats 4000000 in
theorem refRight_ok (s : St) (hs : s.ok) : CallOk Tryd.prog 26 [s.x] (i64 (rightF s)) [] true := by
  obtain ⟨ht, hr, hu, hd, hul, hdl⟩ := hs
  refine fn_ok' T_ok (orc_ok _) mixed Tryd.func26 rfl (by kernel_rfl) (lv [[1], [1, 20], [2], [1, 24], [2], [1, 3], [1, 3, 4], [1, 3, 4, 5], [1, 3, 4, 5, 35], [1, 3, 4, 5], [1, 3, 4, 5, 1000003], [1, 3, 4], [1, 3, 4, 6], [1, 3, 4, 6, 59], [1, 3, 4, 6], [1, 3, 4, 6, 1000003], [73], [2], [2]]) 74 rfl (by simp) rfl (by simp [X.all, PX.all, TV.rawR, SV.isRaw]) ?_
  simp only [argsG, Nat.zero_add, Nat.reduceAdd, St.x]
  repeat' first
    | ((with_reducible refine vOps_cons' ?_)
       generalize hk : Kt _ _ _ _ _ _ _ _ _ = k
       simp only [Tryd.f26, lv, E1, E2, E5, ET, T, orc_mv, noO_mv, mvB, orc_bx, noO_bx, bxB, fwd, fwds, inv, mOk, Int.toNat_natCast, Nat.div_one, Nat.mul_one, Int.reduceToNat, List.not_mem_nil, true_or, or_true, true_and, and_true, decide_true, decide_false, Bool.and_self, Bool.or_self, ↓reduceIte, ne_eq, not_false_eq_true, not_true_eq_false, reduceCtorEq, Nat.reduceLT, Nat.reduceEqDiff, Nat.reduceAdd, Nat.reduceMul, Nat.reduceLeDiff, Nat.reduceDiv, Nat.reduceMod, Nat.reduceSub, Nat.reduceBEq, rn_len, chs_len, chs_cnt, List.length_map, Ch.x, Ch.inv, Opn.x, St.x, cut_rn, take_drop_len, List.length_append, List.length_take, List.length_drop, ← rn_app, Int.sub_zero]
       try simp (disch := omega) only [wrap_in, Int.toNat_natCast, tv_rn, tv_ch0, tv_ch1, tv_ch2]
       subst hk)
    | with_reducible refine Kt_p ?_
    | with_reducible refine Kt_i (by kernel_rfl) ?_
    | with_reducible refine Kr_f (by kernel_rfl) ?_
    | (with_reducible refine Kr_t ?_; simp only [List.length_append, List.length_cons, List.length_nil, Nat.reduceAdd, Nat.reduceSub, List.drop_succ_cons, List.drop_zero])
    | with_reducible refine vR_nil ?_
    | with_reducible refine KtR_i (by kernel_rfl) ?_
    | with_reducible refine KrR_i (by kernel_rfl) ?_
    | with_reducible refine vR_skip (by decide) ?_
    | ((with_reducible refine vR_cons (by decide) ?_)
       generalize hk : KtR _ _ _ _ _ _ _ _ _ _ = k
       simp only [Tryd.f26, lv, E1, E2, E5, ET, T, orc_mv, noO_mv, mvB, orc_bx, noO_bx, bxB, fwd, fwds, inv, mOk, Int.toNat_natCast, Nat.div_one, Nat.mul_one, Int.reduceToNat, List.not_mem_nil, true_or, or_true, true_and, and_true, decide_true, decide_false, Bool.and_self, Bool.or_self, ↓reduceIte, ne_eq, not_false_eq_true, not_true_eq_false, reduceCtorEq, Nat.reduceLT, Nat.reduceEqDiff, Nat.reduceAdd, Nat.reduceMul, Nat.reduceLeDiff, Nat.reduceDiv, Nat.reduceMod, Nat.reduceSub, Nat.reduceBEq, rn_len, chs_len, chs_cnt, List.length_map, Ch.x, Ch.inv, Opn.x, St.x, cut_rn, take_drop_len, List.length_append, List.length_take, List.length_drop, ← rn_app, Int.sub_zero]
       try simp (disch := omega) only [wrap_in, Int.toNat_natCast, tv_rn, tv_ch0, tv_ch1, tv_ch2]
       subst hk)
    | ((with_reducible refine vB_i ?_ ?_) <;> intro _ <;> (first | (exfalso; omega) | (exact absurd trivial ‹¬True›) | (try dsimp only [])))
    | ((with_reducible refine vOps_nil' ?_); refine Kr_i (by kernel_rfl) ?_; generalize hk : plain _ _ = G; simp only [lv, E3, E2, E5, rawX, deadX, List.not_mem_nil, true_or, or_true, true_and, and_true, decide_true, decide_false, Bool.and_self, Bool.or_self, ↓reduceIte, ne_eq, not_false_eq_true, not_true_eq_false, reduceCtorEq, Nat.reduceLT, Nat.reduceEqDiff, Nat.reduceAdd, Nat.reduceMul, Nat.reduceLeDiff, Nat.reduceDiv, Nat.reduceMod, Nat.reduceSub, Nat.reduceBEq, rn_len, chs_len, chs_cnt, List.length_map, Ch.x, Ch.inv, Opn.x, St.x, cut_rn, take_drop_len, List.length_append, List.length_take, List.length_drop, ← rn_app, Int.sub_zero] at hk; subst hk)
    | with_reducible refine vSeq_i ?_
    | with_reducible refine vRegion_i (by kernel_rfl) ?_
    | with_reducible refine Kv_i ?_
    | ((with_reducible apply vStrK_i); (focus (rfl; done)))
    | ((with_reducible refine imp_i ?_); intro _)
    | with_reducible refine Ks_n ?_
    | with_reducible refine Ks_r ?_
    | with_reducible refine Ks_e ?_
    | with_reducible refine Kl_e ?_
    | with_reducible refine Kx_n ?_
    | with_reducible refine Kl_r ?_
    | with_reducible refine vRet_i ?_
    | with_reducible refine vSkip_i ?_
    | with_reducible refine vExit_i ?_
    | with_reducible refine vBlock_i ?_
    | with_reducible refine Ks_p ?_
    | with_reducible refine Kl_p ?_
    | with_reducible refine blk_p ?_
    | with_reducible exact Kb_p
    | with_reducible refine vGoto_i ?_
    | with_reducible refine vLabel_i ?_
    | with_reducible refine Ks_g ?_
    | with_reducible refine Kl_g ?_
    | with_reducible refine blk_g ?_
    | with_reducible refine jmp_g ?_
    | with_reducible refine jmp_n ?_
    | with_reducible refine jmp_r ?_
    | with_reducible refine nog_n ?_
    | with_reducible refine nog_r ?_
    | with_reducible refine blk_n ?_
    | with_reducible refine blk_r ?_
    | with_reducible refine blk_e ?_
    | with_reducible refine blk_o (by decide) ?_
    | ((with_reducible refine vCond_t ?_ ?_); (focus (simp only [lv, E1, E2, E5, ET, T, orc_mv, noO_mv, mvB, orc_bx, noO_bx, bxB, fwd, fwds, inv, mOk, Int.toNat_natCast, Nat.div_one, Nat.mul_one, Int.reduceToNat, List.not_mem_nil, true_or, or_true, true_and, and_true, decide_true, decide_false, Bool.and_self, Bool.or_self, ↓reduceIte, ne_eq, not_false_eq_true, not_true_eq_false, reduceCtorEq, Nat.reduceLT, Nat.reduceEqDiff, Nat.reduceAdd, Nat.reduceMul, Nat.reduceLeDiff, Nat.reduceDiv, Nat.reduceMod, Nat.reduceSub, Nat.reduceBEq, rn_len, chs_len, chs_cnt, List.length_map, Ch.x, Ch.inv, Opn.x, St.x, cut_rn, take_drop_len, List.length_append, List.length_take, List.length_drop, ← rn_app, Int.sub_zero]; done)))
    | ((with_reducible refine vCond_f ?_ ?_); (focus (simp only [lv, E1, E2, E5, ET, T, orc_mv, noO_mv, mvB, orc_bx, noO_bx, bxB, fwd, fwds, inv, mOk, Int.toNat_natCast, Nat.div_one, Nat.mul_one, Int.reduceToNat, List.not_mem_nil, true_or, or_true, true_and, and_true, decide_true, decide_false, Bool.and_self, Bool.or_self, ↓reduceIte, ne_eq, not_false_eq_true, not_true_eq_false, reduceCtorEq, Nat.reduceLT, Nat.reduceEqDiff, Nat.reduceAdd, Nat.reduceMul, Nat.reduceLeDiff, Nat.reduceDiv, Nat.reduceMod, Nat.reduceSub, Nat.reduceBEq, rn_len, chs_len, chs_cnt, List.length_map, Ch.x, Ch.inv, Opn.x, St.x, cut_rn, take_drop_len, List.length_append, List.length_take, List.length_drop, ← rn_app, Int.sub_zero]; done)))
    | ((with_reducible refine And.intro ?_ ?_); (focus (try omega)))
    | ((with_reducible apply orc_b); (focus (with_reducible exact scal1_ok _ hr (by omega); done)); (all_goals (intro hb; (try simp only [decide_eq_true_eq, decide_eq_false_iff_not, Bool.not_eq_true', Bool.not_eq_false', Bool.and_eq_true, Decidable.not_not] at hb); (generalize hk : Kt _ _ _ _ _ _ _ _ _ = k; simp only [lv, E1, E2, E5, ET, T, orc_mv, noO_mv, mvB, orc_bx, noO_bx, bxB, fwd, fwds, inv, mOk, Int.toNat_natCast, Nat.div_one, Nat.mul_one, Int.reduceToNat, List.not_mem_nil, true_or, or_true, true_and, and_true, decide_true, decide_false, Bool.and_self, Bool.or_self, ↓reduceIte, ne_eq, not_false_eq_true, not_true_eq_false, reduceCtorEq, Nat.reduceLT, Nat.reduceEqDiff, Nat.reduceAdd, Nat.reduceMul, Nat.reduceLeDiff, Nat.reduceDiv, Nat.reduceMod, Nat.reduceSub, Nat.reduceBEq, rn_len, chs_len, chs_cnt, List.length_map, Ch.x, Ch.inv, Opn.x, St.x, cut_rn, take_drop_len, List.length_append, List.length_take, List.length_drop, ← rn_app, Int.sub_zero]; (try simp (disch := omega) only [wrap_in, Int.toNat_natCast, tv_rn, tv_ch0, tv_ch1, tv_ch2]); subst hk))))
  · refine Kf_r ?_
    simp only [Tryd.f26, E4, E3, E2, E5, rawX, deadX, ET, T, List.not_mem_nil, true_or, or_true, true_and, and_true, decide_true, decide_false, Bool.and_self, Bool.or_self, ↓reduceIte, ne_eq, not_false_eq_true, not_true_eq_false, reduceCtorEq, Nat.reduceLT, Nat.reduceEqDiff, Nat.reduceAdd, Nat.reduceMul, Nat.reduceLeDiff, Nat.reduceDiv, Nat.reduceMod, Nat.reduceSub, Nat.reduceBEq, rn_len, chs_len, chs_cnt, List.length_map, Ch.x, Ch.inv, Opn.x, St.x, cut_rn, take_drop_len, List.length_append, List.length_take, List.length_drop, ← rn_app, Int.sub_zero, X.p.injEq, X.tup.injEq, PX.one.injEq, PX.agg.injEq, TV.v.injEq, TV.sr.injEq, SV.raw.injEq, SV.sl.injEq, Value.bool.injEq, Value.int.injEq, List.cons.injEq, Prod.mk.injEq, true_and, and_true, and_self]
    unfold rightF; rw [if_pos (by omega)]
  · refine Kf_r ?_
    simp only [Tryd.f26, E4, E3, E2, E5, rawX, deadX, ET, T, List.not_mem_nil, true_or, or_true, true_and, and_true, decide_true, decide_false, Bool.and_self, Bool.or_self, ↓reduceIte, ne_eq, not_false_eq_true, not_true_eq_false, reduceCtorEq, Nat.reduceLT, Nat.reduceEqDiff, Nat.reduceAdd, Nat.reduceMul, Nat.reduceLeDiff, Nat.reduceDiv, Nat.reduceMod, Nat.reduceSub, Nat.reduceBEq, rn_len, chs_len, chs_cnt, List.length_map, Ch.x, Ch.inv, Opn.x, St.x, cut_rn, take_drop_len, List.length_append, List.length_take, List.length_drop, ← rn_app, Int.sub_zero, X.p.injEq, X.tup.injEq, PX.one.injEq, PX.agg.injEq, TV.v.injEq, TV.sr.injEq, SV.raw.injEq, SV.sl.injEq, Value.bool.injEq, Value.int.injEq, List.cons.injEq, Prod.mk.injEq, true_and, and_true, and_self]
    unfold rightF; rw [if_pos (by omega)]
  · rename_i h1 h2
    generalize hQ : GEx.blk 0 _ = Q
    have key : ∀ (cur : List Int) (ok : Bool) (i : Int), walkN (s.undo.map Ch.inv) s.undo.length s.text = ok →
        Q (.exit 0) [(.t 1, .t (.p (.one (.pr 0 0)))), (.t 3, .t (sl (rn cur))), (.t 4, .t (bo ok)), (.t 5, .t (i64 i)), (.t 35, .t (bo false)), (.box 0, .box 29 [.v (.sl 1 (rn s.text)), .v (.sl 3 (chs s.undo)), .v (.sl 3 (chs s.redo))])] := by
      intro cur ok i hw
      subst hQ
      repeat' first
        | ((with_reducible refine vOps_cons' ?_)
           generalize hk : Kt _ _ _ _ _ _ _ _ _ = k
           simp only [Tryd.f26, lv, E1, E2, E5, ET, T, orc_mv, noO_mv, mvB, orc_bx, noO_bx, bxB, fwd, fwds, inv, mOk, Int.toNat_natCast, Nat.div_one, Nat.mul_one, Int.reduceToNat, List.not_mem_nil, true_or, or_true, true_and, and_true, decide_true, decide_false, Bool.and_self, Bool.or_self, ↓reduceIte, ne_eq, not_false_eq_true, not_true_eq_false, reduceCtorEq, Nat.reduceLT, Nat.reduceEqDiff, Nat.reduceAdd, Nat.reduceMul, Nat.reduceLeDiff, Nat.reduceDiv, Nat.reduceMod, Nat.reduceSub, Nat.reduceBEq, rn_len, chs_len, chs_cnt, List.length_map, Ch.x, Ch.inv, Opn.x, St.x, cut_rn, take_drop_len, List.length_append, List.length_take, List.length_drop, ← rn_app, Int.sub_zero]
           try simp (disch := omega) only [wrap_in, Int.toNat_natCast, tv_rn, tv_ch0, tv_ch1, tv_ch2]
           subst hk)
        | with_reducible refine Kt_p ?_
        | with_reducible refine Kt_i (by kernel_rfl) ?_
        | with_reducible refine Kr_f (by kernel_rfl) ?_
        | (with_reducible refine Kr_t ?_; simp only [List.length_append, List.length_cons, List.length_nil, Nat.reduceAdd, Nat.reduceSub, List.drop_succ_cons, List.drop_zero])
        | with_reducible refine vR_nil ?_
        | with_reducible refine KtR_i (by kernel_rfl) ?_
        | with_reducible refine KrR_i (by kernel_rfl) ?_
        | with_reducible refine vR_skip (by decide) ?_
        | ((with_reducible refine vR_cons (by decide) ?_)
           generalize hk : KtR _ _ _ _ _ _ _ _ _ _ = k
           simp only [Tryd.f26, lv, E1, E2, E5, ET, T, orc_mv, noO_mv, mvB, orc_bx, noO_bx, bxB, fwd, fwds, inv, mOk, Int.toNat_natCast, Nat.div_one, Nat.mul_one, Int.reduceToNat, List.not_mem_nil, true_or, or_true, true_and, and_true, decide_true, decide_false, Bool.and_self, Bool.or_self, ↓reduceIte, ne_eq, not_false_eq_true, not_true_eq_false, reduceCtorEq, Nat.reduceLT, Nat.reduceEqDiff, Nat.reduceAdd, Nat.reduceMul, Nat.reduceLeDiff, Nat.reduceDiv, Nat.reduceMod, Nat.reduceSub, Nat.reduceBEq, rn_len, chs_len, chs_cnt, List.length_map, Ch.x, Ch.inv, Opn.x, St.x, cut_rn, take_drop_len, List.length_append, List.length_take, List.length_drop, ← rn_app, Int.sub_zero]
           try simp (disch := omega) only [wrap_in, Int.toNat_natCast, tv_rn, tv_ch0, tv_ch1, tv_ch2]
           subst hk)
        | ((with_reducible refine vB_i ?_ ?_) <;> intro _ <;> (first | (exfalso; omega) | (exact absurd trivial ‹¬True›) | (try dsimp only [])))
        | ((with_reducible refine vOps_nil' ?_); refine Kr_i (by kernel_rfl) ?_; generalize hk : plain _ _ = G; simp only [lv, E3, E2, E5, rawX, deadX, List.not_mem_nil, true_or, or_true, true_and, and_true, decide_true, decide_false, Bool.and_self, Bool.or_self, ↓reduceIte, ne_eq, not_false_eq_true, not_true_eq_false, reduceCtorEq, Nat.reduceLT, Nat.reduceEqDiff, Nat.reduceAdd, Nat.reduceMul, Nat.reduceLeDiff, Nat.reduceDiv, Nat.reduceMod, Nat.reduceSub, Nat.reduceBEq, rn_len, chs_len, chs_cnt, List.length_map, Ch.x, Ch.inv, Opn.x, St.x, cut_rn, take_drop_len, List.length_append, List.length_take, List.length_drop, ← rn_app, Int.sub_zero] at hk; subst hk)
        | with_reducible refine vSeq_i ?_
        | with_reducible refine vRegion_i (by kernel_rfl) ?_
        | with_reducible refine Kv_i ?_
        | ((with_reducible apply vStrK_i); (focus (rfl; done)))
        | ((with_reducible refine imp_i ?_); intro _)
        | with_reducible refine Ks_n ?_
        | with_reducible refine Ks_r ?_
        | with_reducible refine Ks_e ?_
        | with_reducible refine Kl_e ?_
        | with_reducible refine Kx_n ?_
        | with_reducible refine Kl_r ?_
        | with_reducible refine vRet_i ?_
        | with_reducible refine vSkip_i ?_
        | with_reducible refine vExit_i ?_
        | with_reducible refine vBlock_i ?_
        | with_reducible refine Ks_p ?_
        | with_reducible refine Kl_p ?_
        | with_reducible refine blk_p ?_
        | with_reducible exact Kb_p
        | with_reducible refine vGoto_i ?_
        | with_reducible refine vLabel_i ?_
        | with_reducible refine Ks_g ?_
        | with_reducible refine Kl_g ?_
        | with_reducible refine blk_g ?_
        | with_reducible refine jmp_g ?_
        | with_reducible refine jmp_n ?_
        | with_reducible refine jmp_r ?_
        | with_reducible refine nog_n ?_
        | with_reducible refine nog_r ?_
        | with_reducible refine blk_n ?_
        | with_reducible refine blk_r ?_
        | with_reducible refine blk_e ?_
        | with_reducible refine blk_o (by decide) ?_
        | ((with_reducible refine vCond_t ?_ ?_); (focus (simp only [lv, E1, E2, E5, ET, T, orc_mv, noO_mv, mvB, orc_bx, noO_bx, bxB, fwd, fwds, inv, mOk, Int.toNat_natCast, Nat.div_one, Nat.mul_one, Int.reduceToNat, List.not_mem_nil, true_or, or_true, true_and, and_true, decide_true, decide_false, Bool.and_self, Bool.or_self, ↓reduceIte, ne_eq, not_false_eq_true, not_true_eq_false, reduceCtorEq, Nat.reduceLT, Nat.reduceEqDiff, Nat.reduceAdd, Nat.reduceMul, Nat.reduceLeDiff, Nat.reduceDiv, Nat.reduceMod, Nat.reduceSub, Nat.reduceBEq, rn_len, chs_len, chs_cnt, List.length_map, Ch.x, Ch.inv, Opn.x, St.x, cut_rn, take_drop_len, List.length_append, List.length_take, List.length_drop, ← rn_app, Int.sub_zero]; done)))
        | ((with_reducible refine vCond_f ?_ ?_); (focus (simp only [lv, E1, E2, E5, ET, T, orc_mv, noO_mv, mvB, orc_bx, noO_bx, bxB, fwd, fwds, inv, mOk, Int.toNat_natCast, Nat.div_one, Nat.mul_one, Int.reduceToNat, List.not_mem_nil, true_or, or_true, true_and, and_true, decide_true, decide_false, Bool.and_self, Bool.or_self, ↓reduceIte, ne_eq, not_false_eq_true, not_true_eq_false, reduceCtorEq, Nat.reduceLT, Nat.reduceEqDiff, Nat.reduceAdd, Nat.reduceMul, Nat.reduceLeDiff, Nat.reduceDiv, Nat.reduceMod, Nat.reduceSub, Nat.reduceBEq, rn_len, chs_len, chs_cnt, List.length_map, Ch.x, Ch.inv, Opn.x, St.x, cut_rn, take_drop_len, List.length_append, List.length_take, List.length_drop, ← rn_app, Int.sub_zero]; done)))
        | ((with_reducible refine And.intro ?_ ?_); (focus (try omega)))
      generalize hQ : GEx.blk 2 _ = Q
      have key2 : ∀ (cur : List Int) (ok2 : Bool) (i : Int), (ok && walkN s.redo s.redo.length s.text) = ok2 →
          Q (.exit 2) [(.t 1, .t (.p (.one (.pr 0 0)))), (.t 3, .t (sl (rn cur))), (.t 4, .t (bo ok2)), (.t 6, .t (i64 i)), (.t 59, .t (bo false)), (.box 0, .box 29 [.v (.sl 1 (rn s.text)), .v (.sl 3 (chs s.undo)), .v (.sl 3 (chs s.redo))])] := by
        intro cur2 ok2 i2 hw2
        subst hQ
        cases ok2
        all_goals
          repeat' first
            | ((with_reducible refine vOps_cons' ?_)
               generalize hk : Kt _ _ _ _ _ _ _ _ _ = k
               simp only [Tryd.f26, lv, E1, E2, E5, ET, T, orc_mv, noO_mv, mvB, orc_bx, noO_bx, bxB, fwd, fwds, inv, mOk, Int.toNat_natCast, Nat.div_one, Nat.mul_one, Int.reduceToNat, List.not_mem_nil, true_or, or_true, true_and, and_true, decide_true, decide_false, Bool.and_self, Bool.or_self, ↓reduceIte, ne_eq, not_false_eq_true, not_true_eq_false, reduceCtorEq, Nat.reduceLT, Nat.reduceEqDiff, Nat.reduceAdd, Nat.reduceMul, Nat.reduceLeDiff, Nat.reduceDiv, Nat.reduceMod, Nat.reduceSub, Nat.reduceBEq, rn_len, chs_len, chs_cnt, List.length_map, Ch.x, Ch.inv, Opn.x, St.x, cut_rn, take_drop_len, List.length_append, List.length_take, List.length_drop, ← rn_app, Int.sub_zero]
               try simp (disch := omega) only [wrap_in, Int.toNat_natCast, tv_rn, tv_ch0, tv_ch1, tv_ch2]
               subst hk)
            | with_reducible refine Kt_p ?_
            | with_reducible refine Kt_i (by kernel_rfl) ?_
            | with_reducible refine Kr_f (by kernel_rfl) ?_
            | (with_reducible refine Kr_t ?_; simp only [List.length_append, List.length_cons, List.length_nil, Nat.reduceAdd, Nat.reduceSub, List.drop_succ_cons, List.drop_zero])
            | with_reducible refine vR_nil ?_
            | with_reducible refine KtR_i (by kernel_rfl) ?_
            | with_reducible refine KrR_i (by kernel_rfl) ?_
            | with_reducible refine vR_skip (by decide) ?_
            | ((with_reducible refine vR_cons (by decide) ?_)
               generalize hk : KtR _ _ _ _ _ _ _ _ _ _ = k
               simp only [Tryd.f26, lv, E1, E2, E5, ET, T, orc_mv, noO_mv, mvB, orc_bx, noO_bx, bxB, fwd, fwds, inv, mOk, Int.toNat_natCast, Nat.div_one, Nat.mul_one, Int.reduceToNat, List.not_mem_nil, true_or, or_true, true_and, and_true, decide_true, decide_false, Bool.and_self, Bool.or_self, ↓reduceIte, ne_eq, not_false_eq_true, not_true_eq_false, reduceCtorEq, Nat.reduceLT, Nat.reduceEqDiff, Nat.reduceAdd, Nat.reduceMul, Nat.reduceLeDiff, Nat.reduceDiv, Nat.reduceMod, Nat.reduceSub, Nat.reduceBEq, rn_len, chs_len, chs_cnt, List.length_map, Ch.x, Ch.inv, Opn.x, St.x, cut_rn, take_drop_len, List.length_append, List.length_take, List.length_drop, ← rn_app, Int.sub_zero]
               try simp (disch := omega) only [wrap_in, Int.toNat_natCast, tv_rn, tv_ch0, tv_ch1, tv_ch2]
               subst hk)
            | ((with_reducible refine vB_i ?_ ?_) <;> intro _ <;> (first | (exfalso; omega) | (exact absurd trivial ‹¬True›) | (try dsimp only [])))
            | ((with_reducible refine vOps_nil' ?_); refine Kr_i (by kernel_rfl) ?_; generalize hk : plain _ _ = G; simp only [lv, E3, E2, E5, rawX, deadX, List.not_mem_nil, true_or, or_true, true_and, and_true, decide_true, decide_false, Bool.and_self, Bool.or_self, ↓reduceIte, ne_eq, not_false_eq_true, not_true_eq_false, reduceCtorEq, Nat.reduceLT, Nat.reduceEqDiff, Nat.reduceAdd, Nat.reduceMul, Nat.reduceLeDiff, Nat.reduceDiv, Nat.reduceMod, Nat.reduceSub, Nat.reduceBEq, rn_len, chs_len, chs_cnt, List.length_map, Ch.x, Ch.inv, Opn.x, St.x, cut_rn, take_drop_len, List.length_append, List.length_take, List.length_drop, ← rn_app, Int.sub_zero] at hk; subst hk)
            | with_reducible refine vSeq_i ?_
            | with_reducible refine vRegion_i (by kernel_rfl) ?_
            | with_reducible refine Kv_i ?_
            | ((with_reducible apply vStrK_i); (focus (rfl; done)))
            | ((with_reducible refine imp_i ?_); intro _)
            | with_reducible refine Ks_n ?_
            | with_reducible refine Ks_r ?_
            | with_reducible refine Ks_e ?_
            | with_reducible refine Kl_e ?_
            | with_reducible refine Kx_n ?_
            | with_reducible refine Kl_r ?_
            | with_reducible refine vRet_i ?_
            | with_reducible refine vSkip_i ?_
            | with_reducible refine vExit_i ?_
            | with_reducible refine vBlock_i ?_
            | with_reducible refine Ks_p ?_
            | with_reducible refine Kl_p ?_
            | with_reducible refine blk_p ?_
            | with_reducible exact Kb_p
            | with_reducible refine vGoto_i ?_
            | with_reducible refine vLabel_i ?_
            | with_reducible refine Ks_g ?_
            | with_reducible refine Kl_g ?_
            | with_reducible refine blk_g ?_
            | with_reducible refine jmp_g ?_
            | with_reducible refine jmp_n ?_
            | with_reducible refine jmp_r ?_
            | with_reducible refine nog_n ?_
            | with_reducible refine nog_r ?_
            | with_reducible refine blk_n ?_
            | with_reducible refine blk_r ?_
            | with_reducible refine blk_e ?_
            | with_reducible refine blk_o (by decide) ?_
            | ((with_reducible refine vCond_t ?_ ?_); (focus (simp only [lv, E1, E2, E5, ET, T, orc_mv, noO_mv, mvB, orc_bx, noO_bx, bxB, fwd, fwds, inv, mOk, Int.toNat_natCast, Nat.div_one, Nat.mul_one, Int.reduceToNat, List.not_mem_nil, true_or, or_true, true_and, and_true, decide_true, decide_false, Bool.and_self, Bool.or_self, ↓reduceIte, ne_eq, not_false_eq_true, not_true_eq_false, reduceCtorEq, Nat.reduceLT, Nat.reduceEqDiff, Nat.reduceAdd, Nat.reduceMul, Nat.reduceLeDiff, Nat.reduceDiv, Nat.reduceMod, Nat.reduceSub, Nat.reduceBEq, rn_len, chs_len, chs_cnt, List.length_map, Ch.x, Ch.inv, Opn.x, St.x, cut_rn, take_drop_len, List.length_append, List.length_take, List.length_drop, ← rn_app, Int.sub_zero]; done)))
            | ((with_reducible refine vCond_f ?_ ?_); (focus (simp only [lv, E1, E2, E5, ET, T, orc_mv, noO_mv, mvB, orc_bx, noO_bx, bxB, fwd, fwds, inv, mOk, Int.toNat_natCast, Nat.div_one, Nat.mul_one, Int.reduceToNat, List.not_mem_nil, true_or, or_true, true_and, and_true, decide_true, decide_false, Bool.and_self, Bool.or_self, ↓reduceIte, ne_eq, not_false_eq_true, not_true_eq_false, reduceCtorEq, Nat.reduceLT, Nat.reduceEqDiff, Nat.reduceAdd, Nat.reduceMul, Nat.reduceLeDiff, Nat.reduceDiv, Nat.reduceMod, Nat.reduceSub, Nat.reduceBEq, rn_len, chs_len, chs_cnt, List.length_map, Ch.x, Ch.inv, Opn.x, St.x, cut_rn, take_drop_len, List.length_append, List.length_take, List.length_drop, ← rn_app, Int.sub_zero]; done)))
            | ((with_reducible refine And.intro ?_ ?_); (focus (try omega)))
          refine Kf_r ?_
          simp only [Tryd.f26, E4, E3, E2, E5, rawX, deadX, ET, T, List.not_mem_nil, true_or, or_true, true_and, and_true, decide_true, decide_false, Bool.and_self, Bool.or_self, ↓reduceIte, ne_eq, not_false_eq_true, not_true_eq_false, reduceCtorEq, Nat.reduceLT, Nat.reduceEqDiff, Nat.reduceAdd, Nat.reduceMul, Nat.reduceLeDiff, Nat.reduceDiv, Nat.reduceMod, Nat.reduceSub, Nat.reduceBEq, rn_len, chs_len, chs_cnt, List.length_map, Ch.x, Ch.inv, Opn.x, St.x, cut_rn, take_drop_len, List.length_append, List.length_take, List.length_drop, ← rn_app, Int.sub_zero, X.p.injEq, X.tup.injEq, PX.one.injEq, PX.agg.injEq, TV.v.injEq, TV.sr.injEq, SV.raw.injEq, SV.sl.injEq, Value.bool.injEq, Value.int.injEq, List.cons.injEq, Prod.mk.injEq, true_and, and_true, and_self]
          unfold rightF
          rw [if_neg (by omega), if_neg (fun h => h hb), hw, hw2]
          rfl
      refine vLoop_s (fun z : Nat × List Int × Bool => [(.t 1, .t (.p (.one (.pr 0 0)))), (.t 3, .t (sl (rn z.2.1))), (.t 4, .t (bo z.2.2)), (.t 6, .t (i64 ((z.1 : Int) - 1))), (.box 0, .box 29 [.v (.sl 1 (rn s.text)), .v (.sl 3 (chs s.undo)), .v (.sl 3 (chs s.redo))])])
        (fun z => z.1 ≤ s.redo.length ∧ (z.2.2 = true → z.2.1.length ≤ 100000) ∧ (ok && walkN s.redo s.redo.length s.text) = (z.2.2 && walkN s.redo z.1 z.2.1)) (fun z => z.1) (s.redo.length, s.text, ok) ⟨Nat.le_refl _, fun _ => ht, rfl⟩ rfl ?_
      rintro ⟨n, cur, b⟩ ⟨hn, hc, hw3⟩
      dsimp only at hn hc hw3 ⊢
      cases b
      · skip
        repeat' first
          | ((with_reducible refine vOps_cons' ?_)
             generalize hk : Kt _ _ _ _ _ _ _ _ _ = k
             simp only [Tryd.f26, lv, E1, E2, E5, ET, T, orc_mv, noO_mv, mvB, orc_bx, noO_bx, bxB, fwd, fwds, inv, mOk, Int.toNat_natCast, Nat.div_one, Nat.mul_one, Int.reduceToNat, List.not_mem_nil, true_or, or_true, true_and, and_true, decide_true, decide_false, Bool.and_self, Bool.or_self, ↓reduceIte, ne_eq, not_false_eq_true, not_true_eq_false, reduceCtorEq, Nat.reduceLT, Nat.reduceEqDiff, Nat.reduceAdd, Nat.reduceMul, Nat.reduceLeDiff, Nat.reduceDiv, Nat.reduceMod, Nat.reduceSub, Nat.reduceBEq, rn_len, chs_len, chs_cnt, List.length_map, Ch.x, Ch.inv, Opn.x, St.x, cut_rn, take_drop_len, List.length_append, List.length_take, List.length_drop, ← rn_app, Int.sub_zero]
             try simp (disch := omega) only [wrap_in, Int.toNat_natCast, tv_rn, tv_ch0, tv_ch1, tv_ch2]
             subst hk)
          | with_reducible refine Kt_p ?_
          | with_reducible refine Kt_i (by kernel_rfl) ?_
          | with_reducible refine Kr_f (by kernel_rfl) ?_
          | (with_reducible refine Kr_t ?_; simp only [List.length_append, List.length_cons, List.length_nil, Nat.reduceAdd, Nat.reduceSub, List.drop_succ_cons, List.drop_zero])
          | with_reducible refine vR_nil ?_
          | with_reducible refine KtR_i (by kernel_rfl) ?_
          | with_reducible refine KrR_i (by kernel_rfl) ?_
          | with_reducible refine vR_skip (by decide) ?_
          | ((with_reducible refine vR_cons (by decide) ?_)
             generalize hk : KtR _ _ _ _ _ _ _ _ _ _ = k
             simp only [Tryd.f26, lv, E1, E2, E5, ET, T, orc_mv, noO_mv, mvB, orc_bx, noO_bx, bxB, fwd, fwds, inv, mOk, Int.toNat_natCast, Nat.div_one, Nat.mul_one, Int.reduceToNat, List.not_mem_nil, true_or, or_true, true_and, and_true, decide_true, decide_false, Bool.and_self, Bool.or_self, ↓reduceIte, ne_eq, not_false_eq_true, not_true_eq_false, reduceCtorEq, Nat.reduceLT, Nat.reduceEqDiff, Nat.reduceAdd, Nat.reduceMul, Nat.reduceLeDiff, Nat.reduceDiv, Nat.reduceMod, Nat.reduceSub, Nat.reduceBEq, rn_len, chs_len, chs_cnt, List.length_map, Ch.x, Ch.inv, Opn.x, St.x, cut_rn, take_drop_len, List.length_append, List.length_take, List.length_drop, ← rn_app, Int.sub_zero]
             try simp (disch := omega) only [wrap_in, Int.toNat_natCast, tv_rn, tv_ch0, tv_ch1, tv_ch2]
             subst hk)
          | ((with_reducible refine vB_i ?_ ?_) <;> intro _ <;> (first | (exfalso; omega) | (exact absurd trivial ‹¬True›) | (try dsimp only [])))
          | ((with_reducible refine vOps_nil' ?_); refine Kr_i (by kernel_rfl) ?_; generalize hk : plain _ _ = G; simp only [lv, E3, E2, E5, rawX, deadX, List.not_mem_nil, true_or, or_true, true_and, and_true, decide_true, decide_false, Bool.and_self, Bool.or_self, ↓reduceIte, ne_eq, not_false_eq_true, not_true_eq_false, reduceCtorEq, Nat.reduceLT, Nat.reduceEqDiff, Nat.reduceAdd, Nat.reduceMul, Nat.reduceLeDiff, Nat.reduceDiv, Nat.reduceMod, Nat.reduceSub, Nat.reduceBEq, rn_len, chs_len, chs_cnt, List.length_map, Ch.x, Ch.inv, Opn.x, St.x, cut_rn, take_drop_len, List.length_append, List.length_take, List.length_drop, ← rn_app, Int.sub_zero] at hk; subst hk)
          | with_reducible refine vSeq_i ?_
          | with_reducible refine vRegion_i (by kernel_rfl) ?_
          | with_reducible refine Kv_i ?_
          | ((with_reducible apply vStrK_i); (focus (rfl; done)))
          | ((with_reducible refine imp_i ?_); intro _)
          | with_reducible refine Ks_n ?_
          | with_reducible refine Ks_r ?_
          | with_reducible refine Ks_e ?_
          | with_reducible refine Kl_e ?_
          | with_reducible refine Kx_n ?_
          | with_reducible refine Kl_r ?_
          | with_reducible refine vRet_i ?_
          | with_reducible refine vSkip_i ?_
          | with_reducible refine vExit_i ?_
          | with_reducible refine vBlock_i ?_
          | with_reducible refine Ks_p ?_
          | with_reducible refine Kl_p ?_
          | with_reducible refine blk_p ?_
          | with_reducible exact Kb_p
          | with_reducible refine vGoto_i ?_
          | with_reducible refine vLabel_i ?_
          | with_reducible refine Ks_g ?_
          | with_reducible refine Kl_g ?_
          | with_reducible refine blk_g ?_
          | with_reducible refine jmp_g ?_
          | with_reducible refine jmp_n ?_
          | with_reducible refine jmp_r ?_
          | with_reducible refine nog_n ?_
          | with_reducible refine nog_r ?_
          | with_reducible refine blk_n ?_
          | with_reducible refine blk_r ?_
          | with_reducible refine blk_e ?_
          | with_reducible refine blk_o (by decide) ?_
          | ((with_reducible refine vCond_t ?_ ?_); (focus (simp only [lv, E1, E2, E5, ET, T, orc_mv, noO_mv, mvB, orc_bx, noO_bx, bxB, fwd, fwds, inv, mOk, Int.toNat_natCast, Nat.div_one, Nat.mul_one, Int.reduceToNat, List.not_mem_nil, true_or, or_true, true_and, and_true, decide_true, decide_false, Bool.and_self, Bool.or_self, ↓reduceIte, ne_eq, not_false_eq_true, not_true_eq_false, reduceCtorEq, Nat.reduceLT, Nat.reduceEqDiff, Nat.reduceAdd, Nat.reduceMul, Nat.reduceLeDiff, Nat.reduceDiv, Nat.reduceMod, Nat.reduceSub, Nat.reduceBEq, rn_len, chs_len, chs_cnt, List.length_map, Ch.x, Ch.inv, Opn.x, St.x, cut_rn, take_drop_len, List.length_append, List.length_take, List.length_drop, ← rn_app, Int.sub_zero]; done)))
          | ((with_reducible refine vCond_f ?_ ?_); (focus (simp only [lv, E1, E2, E5, ET, T, orc_mv, noO_mv, mvB, orc_bx, noO_bx, bxB, fwd, fwds, inv, mOk, Int.toNat_natCast, Nat.div_one, Nat.mul_one, Int.reduceToNat, List.not_mem_nil, true_or, or_true, true_and, and_true, decide_true, decide_false, Bool.and_self, Bool.or_self, ↓reduceIte, ne_eq, not_false_eq_true, not_true_eq_false, reduceCtorEq, Nat.reduceLT, Nat.reduceEqDiff, Nat.reduceAdd, Nat.reduceMul, Nat.reduceLeDiff, Nat.reduceDiv, Nat.reduceMod, Nat.reduceSub, Nat.reduceBEq, rn_len, chs_len, chs_cnt, List.length_map, Ch.x, Ch.inv, Opn.x, St.x, cut_rn, take_drop_len, List.length_append, List.length_take, List.length_drop, ← rn_app, Int.sub_zero]; done)))
          | ((with_reducible refine And.intro ?_ ?_); (focus (try omega)))
        all_goals exact key2 _ _ _ (by rw [hw3]; rfl)
      rcases n with _ | m
      · skip
        repeat' first
          | ((with_reducible refine vOps_cons' ?_)
             generalize hk : Kt _ _ _ _ _ _ _ _ _ = k
             simp only [Tryd.f26, lv, E1, E2, E5, ET, T, orc_mv, noO_mv, mvB, orc_bx, noO_bx, bxB, fwd, fwds, inv, mOk, Int.toNat_natCast, Nat.div_one, Nat.mul_one, Int.reduceToNat, List.not_mem_nil, true_or, or_true, true_and, and_true, decide_true, decide_false, Bool.and_self, Bool.or_self, ↓reduceIte, ne_eq, not_false_eq_true, not_true_eq_false, reduceCtorEq, Nat.reduceLT, Nat.reduceEqDiff, Nat.reduceAdd, Nat.reduceMul, Nat.reduceLeDiff, Nat.reduceDiv, Nat.reduceMod, Nat.reduceSub, Nat.reduceBEq, rn_len, chs_len, chs_cnt, List.length_map, Ch.x, Ch.inv, Opn.x, St.x, cut_rn, take_drop_len, List.length_append, List.length_take, List.length_drop, ← rn_app, Int.sub_zero]
             try simp (disch := omega) only [wrap_in, Int.toNat_natCast, tv_rn, tv_ch0, tv_ch1, tv_ch2]
             subst hk)
          | with_reducible refine Kt_p ?_
          | with_reducible refine Kt_i (by kernel_rfl) ?_
          | with_reducible refine Kr_f (by kernel_rfl) ?_
          | (with_reducible refine Kr_t ?_; simp only [List.length_append, List.length_cons, List.length_nil, Nat.reduceAdd, Nat.reduceSub, List.drop_succ_cons, List.drop_zero])
          | with_reducible refine vR_nil ?_
          | with_reducible refine KtR_i (by kernel_rfl) ?_
          | with_reducible refine KrR_i (by kernel_rfl) ?_
          | with_reducible refine vR_skip (by decide) ?_
          | ((with_reducible refine vR_cons (by decide) ?_)
             generalize hk : KtR _ _ _ _ _ _ _ _ _ _ = k
             simp only [Tryd.f26, lv, E1, E2, E5, ET, T, orc_mv, noO_mv, mvB, orc_bx, noO_bx, bxB, fwd, fwds, inv, mOk, Int.toNat_natCast, Nat.div_one, Nat.mul_one, Int.reduceToNat, List.not_mem_nil, true_or, or_true, true_and, and_true, decide_true, decide_false, Bool.and_self, Bool.or_self, ↓reduceIte, ne_eq, not_false_eq_true, not_true_eq_false, reduceCtorEq, Nat.reduceLT, Nat.reduceEqDiff, Nat.reduceAdd, Nat.reduceMul, Nat.reduceLeDiff, Nat.reduceDiv, Nat.reduceMod, Nat.reduceSub, Nat.reduceBEq, rn_len, chs_len, chs_cnt, List.length_map, Ch.x, Ch.inv, Opn.x, St.x, cut_rn, take_drop_len, List.length_append, List.length_take, List.length_drop, ← rn_app, Int.sub_zero]
             try simp (disch := omega) only [wrap_in, Int.toNat_natCast, tv_rn, tv_ch0, tv_ch1, tv_ch2]
             subst hk)
          | ((with_reducible refine vB_i ?_ ?_) <;> intro _ <;> (first | (exfalso; omega) | (exact absurd trivial ‹¬True›) | (try dsimp only [])))
          | ((with_reducible refine vOps_nil' ?_); refine Kr_i (by kernel_rfl) ?_; generalize hk : plain _ _ = G; simp only [lv, E3, E2, E5, rawX, deadX, List.not_mem_nil, true_or, or_true, true_and, and_true, decide_true, decide_false, Bool.and_self, Bool.or_self, ↓reduceIte, ne_eq, not_false_eq_true, not_true_eq_false, reduceCtorEq, Nat.reduceLT, Nat.reduceEqDiff, Nat.reduceAdd, Nat.reduceMul, Nat.reduceLeDiff, Nat.reduceDiv, Nat.reduceMod, Nat.reduceSub, Nat.reduceBEq, rn_len, chs_len, chs_cnt, List.length_map, Ch.x, Ch.inv, Opn.x, St.x, cut_rn, take_drop_len, List.length_append, List.length_take, List.length_drop, ← rn_app, Int.sub_zero] at hk; subst hk)
          | with_reducible refine vSeq_i ?_
          | with_reducible refine vRegion_i (by kernel_rfl) ?_
          | with_reducible refine Kv_i ?_
          | ((with_reducible apply vStrK_i); (focus (rfl; done)))
          | ((with_reducible refine imp_i ?_); intro _)
          | with_reducible refine Ks_n ?_
          | with_reducible refine Ks_r ?_
          | with_reducible refine Ks_e ?_
          | with_reducible refine Kl_e ?_
          | with_reducible refine Kx_n ?_
          | with_reducible refine Kl_r ?_
          | with_reducible refine vRet_i ?_
          | with_reducible refine vSkip_i ?_
          | with_reducible refine vExit_i ?_
          | with_reducible refine vBlock_i ?_
          | with_reducible refine Ks_p ?_
          | with_reducible refine Kl_p ?_
          | with_reducible refine blk_p ?_
          | with_reducible exact Kb_p
          | with_reducible refine vGoto_i ?_
          | with_reducible refine vLabel_i ?_
          | with_reducible refine Ks_g ?_
          | with_reducible refine Kl_g ?_
          | with_reducible refine blk_g ?_
          | with_reducible refine jmp_g ?_
          | with_reducible refine jmp_n ?_
          | with_reducible refine jmp_r ?_
          | with_reducible refine nog_n ?_
          | with_reducible refine nog_r ?_
          | with_reducible refine blk_n ?_
          | with_reducible refine blk_r ?_
          | with_reducible refine blk_e ?_
          | with_reducible refine blk_o (by decide) ?_
          | ((with_reducible refine vCond_t ?_ ?_); (focus (simp only [lv, E1, E2, E5, ET, T, orc_mv, noO_mv, mvB, orc_bx, noO_bx, bxB, fwd, fwds, inv, mOk, Int.toNat_natCast, Nat.div_one, Nat.mul_one, Int.reduceToNat, List.not_mem_nil, true_or, or_true, true_and, and_true, decide_true, decide_false, Bool.and_self, Bool.or_self, ↓reduceIte, ne_eq, not_false_eq_true, not_true_eq_false, reduceCtorEq, Nat.reduceLT, Nat.reduceEqDiff, Nat.reduceAdd, Nat.reduceMul, Nat.reduceLeDiff, Nat.reduceDiv, Nat.reduceMod, Nat.reduceSub, Nat.reduceBEq, rn_len, chs_len, chs_cnt, List.length_map, Ch.x, Ch.inv, Opn.x, St.x, cut_rn, take_drop_len, List.length_append, List.length_take, List.length_drop, ← rn_app, Int.sub_zero]; done)))
          | ((with_reducible refine vCond_f ?_ ?_); (focus (simp only [lv, E1, E2, E5, ET, T, orc_mv, noO_mv, mvB, orc_bx, noO_bx, bxB, fwd, fwds, inv, mOk, Int.toNat_natCast, Nat.div_one, Nat.mul_one, Int.reduceToNat, List.not_mem_nil, true_or, or_true, true_and, and_true, decide_true, decide_false, Bool.and_self, Bool.or_self, ↓reduceIte, ne_eq, not_false_eq_true, not_true_eq_false, reduceCtorEq, Nat.reduceLT, Nat.reduceEqDiff, Nat.reduceAdd, Nat.reduceMul, Nat.reduceLeDiff, Nat.reduceDiv, Nat.reduceMod, Nat.reduceSub, Nat.reduceBEq, rn_len, chs_len, chs_cnt, List.length_map, Ch.x, Ch.inv, Opn.x, St.x, cut_rn, take_drop_len, List.length_append, List.length_take, List.length_drop, ← rn_app, Int.sub_zero]; done)))
          | ((with_reducible refine And.intro ?_ ?_); (focus (try omega)))
        all_goals exact key2 _ _ _ (by rw [hw3]; rfl)
      · rw [show (((m + 1 : Nat) : Int) - 1) = (m : Int) by omega]
        have hcm : (s.redo.getD m noCh).ok := hd _ (mem_getD (by omega))
        repeat' first
          | ((with_reducible refine vOps_cons' ?_)
             generalize hk : Kt _ _ _ _ _ _ _ _ _ = k
             simp only [Tryd.f26, lv, E1, E2, E5, ET, T, orc_mv, noO_mv, mvB, orc_bx, noO_bx, bxB, fwd, fwds, inv, mOk, Int.toNat_natCast, Nat.div_one, Nat.mul_one, Int.reduceToNat, List.not_mem_nil, true_or, or_true, true_and, and_true, decide_true, decide_false, Bool.and_self, Bool.or_self, ↓reduceIte, ne_eq, not_false_eq_true, not_true_eq_false, reduceCtorEq, Nat.reduceLT, Nat.reduceEqDiff, Nat.reduceAdd, Nat.reduceMul, Nat.reduceLeDiff, Nat.reduceDiv, Nat.reduceMod, Nat.reduceSub, Nat.reduceBEq, rn_len, chs_len, chs_cnt, List.length_map, Ch.x, Ch.inv, Opn.x, St.x, cut_rn, take_drop_len, List.length_append, List.length_take, List.length_drop, ← rn_app, Int.sub_zero]
             try simp (disch := omega) only [wrap_in, Int.toNat_natCast, tv_rn, tv_ch0, tv_ch1, tv_ch2]
             subst hk)
          | with_reducible refine Kt_p ?_
          | with_reducible refine Kt_i (by kernel_rfl) ?_
          | with_reducible refine Kr_f (by kernel_rfl) ?_
          | (with_reducible refine Kr_t ?_; simp only [List.length_append, List.length_cons, List.length_nil, Nat.reduceAdd, Nat.reduceSub, List.drop_succ_cons, List.drop_zero])
          | with_reducible refine vR_nil ?_
          | with_reducible refine KtR_i (by kernel_rfl) ?_
          | with_reducible refine KrR_i (by kernel_rfl) ?_
          | with_reducible refine vR_skip (by decide) ?_
          | ((with_reducible refine vR_cons (by decide) ?_)
             generalize hk : KtR _ _ _ _ _ _ _ _ _ _ = k
             simp only [Tryd.f26, lv, E1, E2, E5, ET, T, orc_mv, noO_mv, mvB, orc_bx, noO_bx, bxB, fwd, fwds, inv, mOk, Int.toNat_natCast, Nat.div_one, Nat.mul_one, Int.reduceToNat, List.not_mem_nil, true_or, or_true, true_and, and_true, decide_true, decide_false, Bool.and_self, Bool.or_self, ↓reduceIte, ne_eq, not_false_eq_true, not_true_eq_false, reduceCtorEq, Nat.reduceLT, Nat.reduceEqDiff, Nat.reduceAdd, Nat.reduceMul, Nat.reduceLeDiff, Nat.reduceDiv, Nat.reduceMod, Nat.reduceSub, Nat.reduceBEq, rn_len, chs_len, chs_cnt, List.length_map, Ch.x, Ch.inv, Opn.x, St.x, cut_rn, take_drop_len, List.length_append, List.length_take, List.length_drop, ← rn_app, Int.sub_zero]
             try simp (disch := omega) only [wrap_in, Int.toNat_natCast, tv_rn, tv_ch0, tv_ch1, tv_ch2]
             subst hk)
          | ((with_reducible refine vB_i ?_ ?_) <;> intro _ <;> (first | (exfalso; omega) | (exact absurd trivial ‹¬True›) | (try dsimp only [])))
          | ((with_reducible refine vOps_nil' ?_); refine Kr_i (by kernel_rfl) ?_; generalize hk : plain _ _ = G; simp only [lv, E3, E2, E5, rawX, deadX, List.not_mem_nil, true_or, or_true, true_and, and_true, decide_true, decide_false, Bool.and_self, Bool.or_self, ↓reduceIte, ne_eq, not_false_eq_true, not_true_eq_false, reduceCtorEq, Nat.reduceLT, Nat.reduceEqDiff, Nat.reduceAdd, Nat.reduceMul, Nat.reduceLeDiff, Nat.reduceDiv, Nat.reduceMod, Nat.reduceSub, Nat.reduceBEq, rn_len, chs_len, chs_cnt, List.length_map, Ch.x, Ch.inv, Opn.x, St.x, cut_rn, take_drop_len, List.length_append, List.length_take, List.length_drop, ← rn_app, Int.sub_zero] at hk; subst hk)
          | with_reducible refine vSeq_i ?_
          | with_reducible refine vRegion_i (by kernel_rfl) ?_
          | with_reducible refine Kv_i ?_
          | ((with_reducible apply vStrK_i); (focus (rfl; done)))
          | ((with_reducible refine imp_i ?_); intro _)
          | with_reducible refine Ks_n ?_
          | with_reducible refine Ks_r ?_
          | with_reducible refine Ks_e ?_
          | with_reducible refine Kl_e ?_
          | with_reducible refine Kx_n ?_
          | with_reducible refine Kl_r ?_
          | with_reducible refine vRet_i ?_
          | with_reducible refine vSkip_i ?_
          | with_reducible refine vExit_i ?_
          | with_reducible refine vBlock_i ?_
          | with_reducible refine Ks_p ?_
          | with_reducible refine Kl_p ?_
          | with_reducible refine blk_p ?_
          | with_reducible exact Kb_p
          | with_reducible refine vGoto_i ?_
          | with_reducible refine vLabel_i ?_
          | with_reducible refine Ks_g ?_
          | with_reducible refine Kl_g ?_
          | with_reducible refine blk_g ?_
          | with_reducible refine jmp_g ?_
          | with_reducible refine jmp_n ?_
          | with_reducible refine jmp_r ?_
          | with_reducible refine nog_n ?_
          | with_reducible refine nog_r ?_
          | with_reducible refine blk_n ?_
          | with_reducible refine blk_r ?_
          | with_reducible refine blk_e ?_
          | with_reducible refine blk_o (by decide) ?_
          | ((with_reducible refine vCond_t ?_ ?_); (focus (simp only [lv, E1, E2, E5, ET, T, orc_mv, noO_mv, mvB, orc_bx, noO_bx, bxB, fwd, fwds, inv, mOk, Int.toNat_natCast, Nat.div_one, Nat.mul_one, Int.reduceToNat, List.not_mem_nil, true_or, or_true, true_and, and_true, decide_true, decide_false, Bool.and_self, Bool.or_self, ↓reduceIte, ne_eq, not_false_eq_true, not_true_eq_false, reduceCtorEq, Nat.reduceLT, Nat.reduceEqDiff, Nat.reduceAdd, Nat.reduceMul, Nat.reduceLeDiff, Nat.reduceDiv, Nat.reduceMod, Nat.reduceSub, Nat.reduceBEq, rn_len, chs_len, chs_cnt, List.length_map, Ch.x, Ch.inv, Opn.x, St.x, cut_rn, take_drop_len, List.length_append, List.length_take, List.length_drop, ← rn_app, Int.sub_zero]; done)))
          | ((with_reducible refine vCond_f ?_ ?_); (focus (simp only [lv, E1, E2, E5, ET, T, orc_mv, noO_mv, mvB, orc_bx, noO_bx, bxB, fwd, fwds, inv, mOk, Int.toNat_natCast, Nat.div_one, Nat.mul_one, Int.reduceToNat, List.not_mem_nil, true_or, or_true, true_and, and_true, decide_true, decide_false, Bool.and_self, Bool.or_self, ↓reduceIte, ne_eq, not_false_eq_true, not_true_eq_false, reduceCtorEq, Nat.reduceLT, Nat.reduceEqDiff, Nat.reduceAdd, Nat.reduceMul, Nat.reduceLeDiff, Nat.reduceDiv, Nat.reduceMod, Nat.reduceSub, Nat.reduceBEq, rn_len, chs_len, chs_cnt, List.length_map, Ch.x, Ch.inv, Opn.x, St.x, cut_rn, take_drop_len, List.length_append, List.length_take, List.length_drop, ← rn_app, Int.sub_zero]; done)))
          | ((with_reducible refine And.intro ?_ ?_); (focus (try omega)))
          | ((with_reducible apply orc_i); (focus (exact refDone_ok' cur (s.redo.getD m noCh) (hc rfl) hcm; done)); (generalize hk : Kt _ _ _ _ _ _ _ _ _ = k; simp only [lv, E1, E2, E5, ET, T, orc_mv, noO_mv, mvB, orc_bx, noO_bx, bxB, fwd, fwds, inv, mOk, Int.toNat_natCast, Nat.div_one, Nat.mul_one, Int.reduceToNat, List.not_mem_nil, true_or, or_true, true_and, and_true, decide_true, decide_false, Bool.and_self, Bool.or_self, ↓reduceIte, ne_eq, not_false_eq_true, not_true_eq_false, reduceCtorEq, Nat.reduceLT, Nat.reduceEqDiff, Nat.reduceAdd, Nat.reduceMul, Nat.reduceLeDiff, Nat.reduceDiv, Nat.reduceMod, Nat.reduceSub, Nat.reduceBEq, rn_len, chs_len, chs_cnt, List.length_map, Ch.x, Ch.inv, Opn.x, St.x, cut_rn, take_drop_len, List.length_append, List.length_take, List.length_drop, ← rn_app, Int.sub_zero]; (try simp (disch := omega) only [wrap_in, Int.toNat_natCast, tv_rn, tv_ch0, tv_ch1, tv_ch2]); subst hk))
        refine Kl_n ⟨(m, (if (s.redo.getD m noCh).good cur then (s.redo.getD m noCh).done cur else []), decide ((s.redo.getD m noCh).good cur ∧ ((s.redo.getD m noCh).done cur).length ≤ 4096)), ⟨by omega, walk_len, ?_⟩, by omega, ?_⟩
        · dsimp only
          rw [hw3, walk_step, Bool.true_and]
        · rfl
    refine vLoop_s (fun z : Nat × List Int × Bool => [(.t 1, .t (.p (.one (.pr 0 0)))), (.t 3, .t (sl (rn z.2.1))), (.t 4, .t (bo z.2.2)), (.t 5, .t (i64 ((z.1 : Int) - 1))), (.box 0, .box 29 [.v (.sl 1 (rn s.text)), .v (.sl 3 (chs s.undo)), .v (.sl 3 (chs s.redo))])])
      (fun z => z.1 ≤ s.undo.length ∧ (z.2.2 = true → z.2.1.length ≤ 100000) ∧ (true && walkN (s.undo.map Ch.inv) s.undo.length s.text) = (z.2.2 && walkN (s.undo.map Ch.inv) z.1 z.2.1)) (fun z => z.1) (s.undo.length, s.text, true) ⟨Nat.le_refl _, fun _ => ht, rfl⟩ rfl ?_
    rintro ⟨n, cur, b⟩ ⟨hn, hc, hw3⟩
    dsimp only at hn hc hw3 ⊢
    cases b
    · skip
      repeat' first
        | ((with_reducible refine vOps_cons' ?_)
           generalize hk : Kt _ _ _ _ _ _ _ _ _ = k
           simp only [Tryd.f26, lv, E1, E2, E5, ET, T, orc_mv, noO_mv, mvB, orc_bx, noO_bx, bxB, fwd, fwds, inv, mOk, Int.toNat_natCast, Nat.div_one, Nat.mul_one, Int.reduceToNat, List.not_mem_nil, true_or, or_true, true_and, and_true, decide_true, decide_false, Bool.and_self, Bool.or_self, ↓reduceIte, ne_eq, not_false_eq_true, not_true_eq_false, reduceCtorEq, Nat.reduceLT, Nat.reduceEqDiff, Nat.reduceAdd, Nat.reduceMul, Nat.reduceLeDiff, Nat.reduceDiv, Nat.reduceMod, Nat.reduceSub, Nat.reduceBEq, rn_len, chs_len, chs_cnt, List.length_map, Ch.x, Ch.inv, Opn.x, St.x, cut_rn, take_drop_len, List.length_append, List.length_take, List.length_drop, ← rn_app, Int.sub_zero]
           try simp (disch := omega) only [wrap_in, Int.toNat_natCast, tv_rn, tv_ch0, tv_ch1, tv_ch2]
           subst hk)
        | with_reducible refine Kt_p ?_
        | with_reducible refine Kt_i (by kernel_rfl) ?_
        | with_reducible refine Kr_f (by kernel_rfl) ?_
        | (with_reducible refine Kr_t ?_; simp only [List.length_append, List.length_cons, List.length_nil, Nat.reduceAdd, Nat.reduceSub, List.drop_succ_cons, List.drop_zero])
        | with_reducible refine vR_nil ?_
        | with_reducible refine KtR_i (by kernel_rfl) ?_
        | with_reducible refine KrR_i (by kernel_rfl) ?_
        | with_reducible refine vR_skip (by decide) ?_
        | ((with_reducible refine vR_cons (by decide) ?_)
           generalize hk : KtR _ _ _ _ _ _ _ _ _ _ = k
           simp only [Tryd.f26, lv, E1, E2, E5, ET, T, orc_mv, noO_mv, mvB, orc_bx, noO_bx, bxB, fwd, fwds, inv, mOk, Int.toNat_natCast, Nat.div_one, Nat.mul_one, Int.reduceToNat, List.not_mem_nil, true_or, or_true, true_and, and_true, decide_true, decide_false, Bool.and_self, Bool.or_self, ↓reduceIte, ne_eq, not_false_eq_true, not_true_eq_false, reduceCtorEq, Nat.reduceLT, Nat.reduceEqDiff, Nat.reduceAdd, Nat.reduceMul, Nat.reduceLeDiff, Nat.reduceDiv, Nat.reduceMod, Nat.reduceSub, Nat.reduceBEq, rn_len, chs_len, chs_cnt, List.length_map, Ch.x, Ch.inv, Opn.x, St.x, cut_rn, take_drop_len, List.length_append, List.length_take, List.length_drop, ← rn_app, Int.sub_zero]
           try simp (disch := omega) only [wrap_in, Int.toNat_natCast, tv_rn, tv_ch0, tv_ch1, tv_ch2]
           subst hk)
        | ((with_reducible refine vB_i ?_ ?_) <;> intro _ <;> (first | (exfalso; omega) | (exact absurd trivial ‹¬True›) | (try dsimp only [])))
        | ((with_reducible refine vOps_nil' ?_); refine Kr_i (by kernel_rfl) ?_; generalize hk : plain _ _ = G; simp only [lv, E3, E2, E5, rawX, deadX, List.not_mem_nil, true_or, or_true, true_and, and_true, decide_true, decide_false, Bool.and_self, Bool.or_self, ↓reduceIte, ne_eq, not_false_eq_true, not_true_eq_false, reduceCtorEq, Nat.reduceLT, Nat.reduceEqDiff, Nat.reduceAdd, Nat.reduceMul, Nat.reduceLeDiff, Nat.reduceDiv, Nat.reduceMod, Nat.reduceSub, Nat.reduceBEq, rn_len, chs_len, chs_cnt, List.length_map, Ch.x, Ch.inv, Opn.x, St.x, cut_rn, take_drop_len, List.length_append, List.length_take, List.length_drop, ← rn_app, Int.sub_zero] at hk; subst hk)
        | with_reducible refine vSeq_i ?_
        | with_reducible refine vRegion_i (by kernel_rfl) ?_
        | with_reducible refine Kv_i ?_
        | ((with_reducible apply vStrK_i); (focus (rfl; done)))
        | ((with_reducible refine imp_i ?_); intro _)
        | with_reducible refine Ks_n ?_
        | with_reducible refine Ks_r ?_
        | with_reducible refine Ks_e ?_
        | with_reducible refine Kl_e ?_
        | with_reducible refine Kx_n ?_
        | with_reducible refine Kl_r ?_
        | with_reducible refine vRet_i ?_
        | with_reducible refine vSkip_i ?_
        | with_reducible refine vExit_i ?_
        | with_reducible refine vBlock_i ?_
        | with_reducible refine Ks_p ?_
        | with_reducible refine Kl_p ?_
        | with_reducible refine blk_p ?_
        | with_reducible exact Kb_p
        | with_reducible refine vGoto_i ?_
        | with_reducible refine vLabel_i ?_
        | with_reducible refine Ks_g ?_
        | with_reducible refine Kl_g ?_
        | with_reducible refine blk_g ?_
        | with_reducible refine jmp_g ?_
        | with_reducible refine jmp_n ?_
        | with_reducible refine jmp_r ?_
        | with_reducible refine nog_n ?_
        | with_reducible refine nog_r ?_
        | with_reducible refine blk_n ?_
        | with_reducible refine blk_r ?_
        | with_reducible refine blk_e ?_
        | with_reducible refine blk_o (by decide) ?_
        | ((with_reducible refine vCond_t ?_ ?_); (focus (simp only [lv, E1, E2, E5, ET, T, orc_mv, noO_mv, mvB, orc_bx, noO_bx, bxB, fwd, fwds, inv, mOk, Int.toNat_natCast, Nat.div_one, Nat.mul_one, Int.reduceToNat, List.not_mem_nil, true_or, or_true, true_and, and_true, decide_true, decide_false, Bool.and_self, Bool.or_self, ↓reduceIte, ne_eq, not_false_eq_true, not_true_eq_false, reduceCtorEq, Nat.reduceLT, Nat.reduceEqDiff, Nat.reduceAdd, Nat.reduceMul, Nat.reduceLeDiff, Nat.reduceDiv, Nat.reduceMod, Nat.reduceSub, Nat.reduceBEq, rn_len, chs_len, chs_cnt, List.length_map, Ch.x, Ch.inv, Opn.x, St.x, cut_rn, take_drop_len, List.length_append, List.length_take, List.length_drop, ← rn_app, Int.sub_zero]; done)))
        | ((with_reducible refine vCond_f ?_ ?_); (focus (simp only [lv, E1, E2, E5, ET, T, orc_mv, noO_mv, mvB, orc_bx, noO_bx, bxB, fwd, fwds, inv, mOk, Int.toNat_natCast, Nat.div_one, Nat.mul_one, Int.reduceToNat, List.not_mem_nil, true_or, or_true, true_and, and_true, decide_true, decide_false, Bool.and_self, Bool.or_self, ↓reduceIte, ne_eq, not_false_eq_true, not_true_eq_false, reduceCtorEq, Nat.reduceLT, Nat.reduceEqDiff, Nat.reduceAdd, Nat.reduceMul, Nat.reduceLeDiff, Nat.reduceDiv, Nat.reduceMod, Nat.reduceSub, Nat.reduceBEq, rn_len, chs_len, chs_cnt, List.length_map, Ch.x, Ch.inv, Opn.x, St.x, cut_rn, take_drop_len, List.length_append, List.length_take, List.length_drop, ← rn_app, Int.sub_zero]; done)))
        | ((with_reducible refine And.intro ?_ ?_); (focus (try omega)))
      all_goals exact key _ _ _ (by rw [← Bool.true_and (walkN (s.undo.map Ch.inv) s.undo.length s.text), hw3]; rfl)
    rcases n with _ | m
    · skip
      repeat' first
        | ((with_reducible refine vOps_cons' ?_)
           generalize hk : Kt _ _ _ _ _ _ _ _ _ = k
           simp only [Tryd.f26, lv, E1, E2, E5, ET, T, orc_mv, noO_mv, mvB, orc_bx, noO_bx, bxB, fwd, fwds, inv, mOk, Int.toNat_natCast, Nat.div_one, Nat.mul_one, Int.reduceToNat, List.not_mem_nil, true_or, or_true, true_and, and_true, decide_true, decide_false, Bool.and_self, Bool.or_self, ↓reduceIte, ne_eq, not_false_eq_true, not_true_eq_false, reduceCtorEq, Nat.reduceLT, Nat.reduceEqDiff, Nat.reduceAdd, Nat.reduceMul, Nat.reduceLeDiff, Nat.reduceDiv, Nat.reduceMod, Nat.reduceSub, Nat.reduceBEq, rn_len, chs_len, chs_cnt, List.length_map, Ch.x, Ch.inv, Opn.x, St.x, cut_rn, take_drop_len, List.length_append, List.length_take, List.length_drop, ← rn_app, Int.sub_zero]
           try simp (disch := omega) only [wrap_in, Int.toNat_natCast, tv_rn, tv_ch0, tv_ch1, tv_ch2]
           subst hk)
        | with_reducible refine Kt_p ?_
        | with_reducible refine Kt_i (by kernel_rfl) ?_
        | with_reducible refine Kr_f (by kernel_rfl) ?_
        | (with_reducible refine Kr_t ?_; simp only [List.length_append, List.length_cons, List.length_nil, Nat.reduceAdd, Nat.reduceSub, List.drop_succ_cons, List.drop_zero])
        | with_reducible refine vR_nil ?_
        | with_reducible refine KtR_i (by kernel_rfl) ?_
        | with_reducible refine KrR_i (by kernel_rfl) ?_
        | with_reducible refine vR_skip (by decide) ?_
        | ((with_reducible refine vR_cons (by decide) ?_)
           generalize hk : KtR _ _ _ _ _ _ _ _ _ _ = k
           simp only [Tryd.f26, lv, E1, E2, E5, ET, T, orc_mv, noO_mv, mvB, orc_bx, noO_bx, bxB, fwd, fwds, inv, mOk, Int.toNat_natCast, Nat.div_one, Nat.mul_one, Int.reduceToNat, List.not_mem_nil, true_or, or_true, true_and, and_true, decide_true, decide_false, Bool.and_self, Bool.or_self, ↓reduceIte, ne_eq, not_false_eq_true, not_true_eq_false, reduceCtorEq, Nat.reduceLT, Nat.reduceEqDiff, Nat.reduceAdd, Nat.reduceMul, Nat.reduceLeDiff, Nat.reduceDiv, Nat.reduceMod, Nat.reduceSub, Nat.reduceBEq, rn_len, chs_len, chs_cnt, List.length_map, Ch.x, Ch.inv, Opn.x, St.x, cut_rn, take_drop_len, List.length_append, List.length_take, List.length_drop, ← rn_app, Int.sub_zero]
           try simp (disch := omega) only [wrap_in, Int.toNat_natCast, tv_rn, tv_ch0, tv_ch1, tv_ch2]
           subst hk)
        | ((with_reducible refine vB_i ?_ ?_) <;> intro _ <;> (first | (exfalso; omega) | (exact absurd trivial ‹¬True›) | (try dsimp only [])))
        | ((with_reducible refine vOps_nil' ?_); refine Kr_i (by kernel_rfl) ?_; generalize hk : plain _ _ = G; simp only [lv, E3, E2, E5, rawX, deadX, List.not_mem_nil, true_or, or_true, true_and, and_true, decide_true, decide_false, Bool.and_self, Bool.or_self, ↓reduceIte, ne_eq, not_false_eq_true, not_true_eq_false, reduceCtorEq, Nat.reduceLT, Nat.reduceEqDiff, Nat.reduceAdd, Nat.reduceMul, Nat.reduceLeDiff, Nat.reduceDiv, Nat.reduceMod, Nat.reduceSub, Nat.reduceBEq, rn_len, chs_len, chs_cnt, List.length_map, Ch.x, Ch.inv, Opn.x, St.x, cut_rn, take_drop_len, List.length_append, List.length_take, List.length_drop, ← rn_app, Int.sub_zero] at hk; subst hk)
        | with_reducible refine vSeq_i ?_
        | with_reducible refine vRegion_i (by kernel_rfl) ?_
        | with_reducible refine Kv_i ?_
        | ((with_reducible apply vStrK_i); (focus (rfl; done)))
        | ((with_reducible refine imp_i ?_); intro _)
        | with_reducible refine Ks_n ?_
        | with_reducible refine Ks_r ?_
        | with_reducible refine Ks_e ?_
        | with_reducible refine Kl_e ?_
        | with_reducible refine Kx_n ?_
        | with_reducible refine Kl_r ?_
        | with_reducible refine vRet_i ?_
        | with_reducible refine vSkip_i ?_
        | with_reducible refine vExit_i ?_
        | with_reducible refine vBlock_i ?_
        | with_reducible refine Ks_p ?_
        | with_reducible refine Kl_p ?_
        | with_reducible refine blk_p ?_
        | with_reducible exact Kb_p
        | with_reducible refine vGoto_i ?_
        | with_reducible refine vLabel_i ?_
        | with_reducible refine Ks_g ?_
        | with_reducible refine Kl_g ?_
        | with_reducible refine blk_g ?_
        | with_reducible refine jmp_g ?_
        | with_reducible refine jmp_n ?_
        | with_reducible refine jmp_r ?_
        | with_reducible refine nog_n ?_
        | with_reducible refine nog_r ?_
        | with_reducible refine blk_n ?_
        | with_reducible refine blk_r ?_
        | with_reducible refine blk_e ?_
        | with_reducible refine blk_o (by decide) ?_
        | ((with_reducible refine vCond_t ?_ ?_); (focus (simp only [lv, E1, E2, E5, ET, T, orc_mv, noO_mv, mvB, orc_bx, noO_bx, bxB, fwd, fwds, inv, mOk, Int.toNat_natCast, Nat.div_one, Nat.mul_one, Int.reduceToNat, List.not_mem_nil, true_or, or_true, true_and, and_true, decide_true, decide_false, Bool.and_self, Bool.or_self, ↓reduceIte, ne_eq, not_false_eq_true, not_true_eq_false, reduceCtorEq, Nat.reduceLT, Nat.reduceEqDiff, Nat.reduceAdd, Nat.reduceMul, Nat.reduceLeDiff, Nat.reduceDiv, Nat.reduceMod, Nat.reduceSub, Nat.reduceBEq, rn_len, chs_len, chs_cnt, List.length_map, Ch.x, Ch.inv, Opn.x, St.x, cut_rn, take_drop_len, List.length_append, List.length_take, List.length_drop, ← rn_app, Int.sub_zero]; done)))
        | ((with_reducible refine vCond_f ?_ ?_); (focus (simp only [lv, E1, E2, E5, ET, T, orc_mv, noO_mv, mvB, orc_bx, noO_bx, bxB, fwd, fwds, inv, mOk, Int.toNat_natCast, Nat.div_one, Nat.mul_one, Int.reduceToNat, List.not_mem_nil, true_or, or_true, true_and, and_true, decide_true, decide_false, Bool.and_self, Bool.or_self, ↓reduceIte, ne_eq, not_false_eq_true, not_true_eq_false, reduceCtorEq, Nat.reduceLT, Nat.reduceEqDiff, Nat.reduceAdd, Nat.reduceMul, Nat.reduceLeDiff, Nat.reduceDiv, Nat.reduceMod, Nat.reduceSub, Nat.reduceBEq, rn_len, chs_len, chs_cnt, List.length_map, Ch.x, Ch.inv, Opn.x, St.x, cut_rn, take_drop_len, List.length_append, List.length_take, List.length_drop, ← rn_app, Int.sub_zero]; done)))
        | ((with_reducible refine And.intro ?_ ?_); (focus (try omega)))
      all_goals exact key _ _ _ (by rw [← Bool.true_and (walkN (s.undo.map Ch.inv) s.undo.length s.text), hw3]; rfl)
    · rw [show (((m + 1 : Nat) : Int) - 1) = (m : Int) by omega]
      have hcm : (s.undo.getD m noCh).ok := hu _ (mem_getD (by omega))
      repeat' first
        | ((with_reducible refine vOps_cons' ?_)
           generalize hk : Kt _ _ _ _ _ _ _ _ _ = k
           simp only [Tryd.f26, lv, E1, E2, E5, ET, T, orc_mv, noO_mv, mvB, orc_bx, noO_bx, bxB, fwd, fwds, inv, mOk, Int.toNat_natCast, Nat.div_one, Nat.mul_one, Int.reduceToNat, List.not_mem_nil, true_or, or_true, true_and, and_true, decide_true, decide_false, Bool.and_self, Bool.or_self, ↓reduceIte, ne_eq, not_false_eq_true, not_true_eq_false, reduceCtorEq, Nat.reduceLT, Nat.reduceEqDiff, Nat.reduceAdd, Nat.reduceMul, Nat.reduceLeDiff, Nat.reduceDiv, Nat.reduceMod, Nat.reduceSub, Nat.reduceBEq, rn_len, chs_len, chs_cnt, List.length_map, Ch.x, Ch.inv, Opn.x, St.x, cut_rn, take_drop_len, List.length_append, List.length_take, List.length_drop, ← rn_app, Int.sub_zero]
           try simp (disch := omega) only [wrap_in, Int.toNat_natCast, tv_rn, tv_ch0, tv_ch1, tv_ch2]
           subst hk)
        | with_reducible refine Kt_p ?_
        | with_reducible refine Kt_i (by kernel_rfl) ?_
        | with_reducible refine Kr_f (by kernel_rfl) ?_
        | (with_reducible refine Kr_t ?_; simp only [List.length_append, List.length_cons, List.length_nil, Nat.reduceAdd, Nat.reduceSub, List.drop_succ_cons, List.drop_zero])
        | with_reducible refine vR_nil ?_
        | with_reducible refine KtR_i (by kernel_rfl) ?_
        | with_reducible refine KrR_i (by kernel_rfl) ?_
        | with_reducible refine vR_skip (by decide) ?_
        | ((with_reducible refine vR_cons (by decide) ?_)
           generalize hk : KtR _ _ _ _ _ _ _ _ _ _ = k
           simp only [Tryd.f26, lv, E1, E2, E5, ET, T, orc_mv, noO_mv, mvB, orc_bx, noO_bx, bxB, fwd, fwds, inv, mOk, Int.toNat_natCast, Nat.div_one, Nat.mul_one, Int.reduceToNat, List.not_mem_nil, true_or, or_true, true_and, and_true, decide_true, decide_false, Bool.and_self, Bool.or_self, ↓reduceIte, ne_eq, not_false_eq_true, not_true_eq_false, reduceCtorEq, Nat.reduceLT, Nat.reduceEqDiff, Nat.reduceAdd, Nat.reduceMul, Nat.reduceLeDiff, Nat.reduceDiv, Nat.reduceMod, Nat.reduceSub, Nat.reduceBEq, rn_len, chs_len, chs_cnt, List.length_map, Ch.x, Ch.inv, Opn.x, St.x, cut_rn, take_drop_len, List.length_append, List.length_take, List.length_drop, ← rn_app, Int.sub_zero]
           try simp (disch := omega) only [wrap_in, Int.toNat_natCast, tv_rn, tv_ch0, tv_ch1, tv_ch2]
           subst hk)
        | ((with_reducible refine vB_i ?_ ?_) <;> intro _ <;> (first | (exfalso; omega) | (exact absurd trivial ‹¬True›) | (try dsimp only [])))
        | ((with_reducible refine vOps_nil' ?_); refine Kr_i (by kernel_rfl) ?_; generalize hk : plain _ _ = G; simp only [lv, E3, E2, E5, rawX, deadX, List.not_mem_nil, true_or, or_true, true_and, and_true, decide_true, decide_false, Bool.and_self, Bool.or_self, ↓reduceIte, ne_eq, not_false_eq_true, not_true_eq_false, reduceCtorEq, Nat.reduceLT, Nat.reduceEqDiff, Nat.reduceAdd, Nat.reduceMul, Nat.reduceLeDiff, Nat.reduceDiv, Nat.reduceMod, Nat.reduceSub, Nat.reduceBEq, rn_len, chs_len, chs_cnt, List.length_map, Ch.x, Ch.inv, Opn.x, St.x, cut_rn, take_drop_len, List.length_append, List.length_take, List.length_drop, ← rn_app, Int.sub_zero] at hk; subst hk)
        | with_reducible refine vSeq_i ?_
        | with_reducible refine vRegion_i (by kernel_rfl) ?_
        | with_reducible refine Kv_i ?_
        | ((with_reducible apply vStrK_i); (focus (rfl; done)))
        | ((with_reducible refine imp_i ?_); intro _)
        | with_reducible refine Ks_n ?_
        | with_reducible refine Ks_r ?_
        | with_reducible refine Ks_e ?_
        | with_reducible refine Kl_e ?_
        | with_reducible refine Kx_n ?_
        | with_reducible refine Kl_r ?_
        | with_reducible refine vRet_i ?_
        | with_reducible refine vSkip_i ?_
        | with_reducible refine vExit_i ?_
        | with_reducible refine vBlock_i ?_
        | with_reducible refine Ks_p ?_
        | with_reducible refine Kl_p ?_
        | with_reducible refine blk_p ?_
        | with_reducible exact Kb_p
        | with_reducible refine vGoto_i ?_
        | with_reducible refine vLabel_i ?_
        | with_reducible refine Ks_g ?_
        | with_reducible refine Kl_g ?_
        | with_reducible refine blk_g ?_
        | with_reducible refine jmp_g ?_
        | with_reducible refine jmp_n ?_
        | with_reducible refine jmp_r ?_
        | with_reducible refine nog_n ?_
        | with_reducible refine nog_r ?_
        | with_reducible refine blk_n ?_
        | with_reducible refine blk_r ?_
        | with_reducible refine blk_e ?_
        | with_reducible refine blk_o (by decide) ?_
        | ((with_reducible refine vCond_t ?_ ?_); (focus (simp only [lv, E1, E2, E5, ET, T, orc_mv, noO_mv, mvB, orc_bx, noO_bx, bxB, fwd, fwds, inv, mOk, Int.toNat_natCast, Nat.div_one, Nat.mul_one, Int.reduceToNat, List.not_mem_nil, true_or, or_true, true_and, and_true, decide_true, decide_false, Bool.and_self, Bool.or_self, ↓reduceIte, ne_eq, not_false_eq_true, not_true_eq_false, reduceCtorEq, Nat.reduceLT, Nat.reduceEqDiff, Nat.reduceAdd, Nat.reduceMul, Nat.reduceLeDiff, Nat.reduceDiv, Nat.reduceMod, Nat.reduceSub, Nat.reduceBEq, rn_len, chs_len, chs_cnt, List.length_map, Ch.x, Ch.inv, Opn.x, St.x, cut_rn, take_drop_len, List.length_append, List.length_take, List.length_drop, ← rn_app, Int.sub_zero]; done)))
        | ((with_reducible refine vCond_f ?_ ?_); (focus (simp only [lv, E1, E2, E5, ET, T, orc_mv, noO_mv, mvB, orc_bx, noO_bx, bxB, fwd, fwds, inv, mOk, Int.toNat_natCast, Nat.div_one, Nat.mul_one, Int.reduceToNat, List.not_mem_nil, true_or, or_true, true_and, and_true, decide_true, decide_false, Bool.and_self, Bool.or_self, ↓reduceIte, ne_eq, not_false_eq_true, not_true_eq_false, reduceCtorEq, Nat.reduceLT, Nat.reduceEqDiff, Nat.reduceAdd, Nat.reduceMul, Nat.reduceLeDiff, Nat.reduceDiv, Nat.reduceMod, Nat.reduceSub, Nat.reduceBEq, rn_len, chs_len, chs_cnt, List.length_map, Ch.x, Ch.inv, Opn.x, St.x, cut_rn, take_drop_len, List.length_append, List.length_take, List.length_drop, ← rn_app, Int.sub_zero]; done)))
        | ((with_reducible refine And.intro ?_ ?_); (focus (try omega)))
        | ((with_reducible apply orc_i); (focus (exact turned_ok (s.undo.getD m noCh) hcm.small; done)); (generalize hk : Kt _ _ _ _ _ _ _ _ _ = k; simp only [lv, E1, E2, E5, ET, T, orc_mv, noO_mv, mvB, orc_bx, noO_bx, bxB, fwd, fwds, inv, mOk, Int.toNat_natCast, Nat.div_one, Nat.mul_one, Int.reduceToNat, List.not_mem_nil, true_or, or_true, true_and, and_true, decide_true, decide_false, Bool.and_self, Bool.or_self, ↓reduceIte, ne_eq, not_false_eq_true, not_true_eq_false, reduceCtorEq, Nat.reduceLT, Nat.reduceEqDiff, Nat.reduceAdd, Nat.reduceMul, Nat.reduceLeDiff, Nat.reduceDiv, Nat.reduceMod, Nat.reduceSub, Nat.reduceBEq, rn_len, chs_len, chs_cnt, List.length_map, Ch.x, Ch.inv, Opn.x, St.x, cut_rn, take_drop_len, List.length_append, List.length_take, List.length_drop, ← rn_app, Int.sub_zero]; (try simp (disch := omega) only [wrap_in, Int.toNat_natCast, tv_rn, tv_ch0, tv_ch1, tv_ch2]); subst hk))
        | ((with_reducible apply orc_i); (focus (exact refDone_ok' cur (s.undo.getD m noCh).inv (hc rfl) hcm.inv; done)); (generalize hk : Kt _ _ _ _ _ _ _ _ _ = k; simp only [lv, E1, E2, E5, ET, T, orc_mv, noO_mv, mvB, orc_bx, noO_bx, bxB, fwd, fwds, inv, mOk, Int.toNat_natCast, Nat.div_one, Nat.mul_one, Int.reduceToNat, List.not_mem_nil, true_or, or_true, true_and, and_true, decide_true, decide_false, Bool.and_self, Bool.or_self, ↓reduceIte, ne_eq, not_false_eq_true, not_true_eq_false, reduceCtorEq, Nat.reduceLT, Nat.reduceEqDiff, Nat.reduceAdd, Nat.reduceMul, Nat.reduceLeDiff, Nat.reduceDiv, Nat.reduceMod, Nat.reduceSub, Nat.reduceBEq, rn_len, chs_len, chs_cnt, List.length_map, Ch.x, Ch.inv, Opn.x, St.x, cut_rn, take_drop_len, List.length_append, List.length_take, List.length_drop, ← rn_app, Int.sub_zero]; (try simp (disch := omega) only [wrap_in, Int.toNat_natCast, tv_rn, tv_ch0, tv_ch1, tv_ch2]); subst hk))
      refine Kl_n ⟨(m, (if (s.undo.getD m noCh).inv.good cur then (s.undo.getD m noCh).inv.done cur else []), decide ((s.undo.getD m noCh).inv.good cur ∧ ((s.undo.getD m noCh).inv.done cur).length ≤ 4096)), ⟨by omega, walk_len, ?_⟩, by omega, ?_⟩
      · dsimp only
        rw [hw3, walk_step, Bool.true_and, getD_inv]
      · rfl
  · refine Kf_r ?_
    simp only [Tryd.f26, E4, E3, E2, E5, rawX, deadX, ET, T, List.not_mem_nil, true_or, or_true, true_and, and_true, decide_true, decide_false, Bool.and_self, Bool.or_self, ↓reduceIte, ne_eq, not_false_eq_true, not_true_eq_false, reduceCtorEq, Nat.reduceLT, Nat.reduceEqDiff, Nat.reduceAdd, Nat.reduceMul, Nat.reduceLeDiff, Nat.reduceDiv, Nat.reduceMod, Nat.reduceSub, Nat.reduceBEq, rn_len, chs_len, chs_cnt, List.length_map, Ch.x, Ch.inv, Opn.x, St.x, cut_rn, take_drop_len, List.length_append, List.length_take, List.length_drop, ← rn_app, Int.sub_zero, X.p.injEq, X.tup.injEq, PX.one.injEq, PX.agg.injEq, TV.v.injEq, TV.sr.injEq, SV.raw.injEq, SV.sl.injEq, Value.bool.injEq, Value.int.injEq, List.cons.injEq, Prod.mk.injEq, true_and, and_true, and_self]
    unfold rightF; rw [if_neg (by omega), if_pos hb]
end Go.Proofs.YtdpflafjfkooeaaDoorG
