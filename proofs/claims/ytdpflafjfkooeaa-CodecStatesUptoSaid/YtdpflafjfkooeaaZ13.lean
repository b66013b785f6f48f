/- YtdpflafjfkooeaaZ13: a part of the proof, joined of its texts. -/
import Derived.Test.YtdpflafjfkooeaaZ12
namespace Go.Proofs.YtdpflafjfkooeaaG
open Go Go.RowKit Go.Proofs
set_option linter.unusedSimpArgs false
set_option linter.unusedVariables false
set_option maxRecDepth 10000 in
set_option maxHeartbeats 4000000 in
theorem refRight_ok (s : St) (hs : s.ok) : CallOk Try.prog 17 [s.x] (i64 (rightF s)) [] true := by
  obtain ⟨ht, hr, hu, hd, hul, hdl⟩ := hs
  refine fn_ok' T_ok (orc_ok _) mixed Try.func17 rfl (by kernel_rfl) (lv [[1], [1, 20], [2], [1, 24], [2], [1, 3], [1, 3, 4], [1, 3, 4, 5], [1, 3, 4, 5, 35], [1, 3, 4, 5], [1, 3, 4, 5, 1000003], [1, 3, 4], [1, 3, 4, 6], [1, 3, 4, 6, 59], [1, 3, 4, 6], [1, 3, 4, 6, 1000003], [73], [2], [2]]) 74 rfl (by simp) rfl (by simp [X.all, PX.all, TV.rawR, SV.isRaw]) ?_
  simp only [argsG, Nat.zero_add, Nat.reduceAdd, St.x]
  repeat' first
    | ((first
        | ((with_reducible refine vR_cons (by decide) ?_); generalize hk : KtR _ _ _ _ _ _ _ _ _ _ = k)
        | ((first
        | with_reducible refine vOps_cons' ?_
        | ((with_reducible apply orc_b); (focus (with_reducible exact scal1_ok _ hr (by omega); done)); (all_goals (intro hb; (try simp only [decide_eq_true_eq, decide_eq_false_iff_not, Bool.not_eq_true', Bool.not_eq_false', Bool.and_eq_true, Decidable.not_not] at hb))))) <;> generalize hk : Kt _ _ _ _ _ _ _ _ _ = k)) <;> (simp only [Try.f17, lv, E1, E2, E5, ET, T, orc_mv, noO_mv, mvB, orc_bx, noO_bx, bxB, fwd, fwds, inv, mOk, Int.toNat_natCast, Nat.div_one, Nat.mul_one, Int.reduceToNat, SB, List.not_mem_nil, ↓reduceIte, ne_eq, reduceCtorEq, Nat.reduceLT, Nat.reduceEqDiff, Nat.reduceAdd, Nat.reduceMul, Nat.reduceLeDiff, Nat.reduceDiv, Nat.reduceMod, Nat.reduceSub, Nat.reduceBEq, rn_len, chs_len, chs_cnt, List.length_map, Ch.x, Ch.inv, Opn.x, St.x, cut_rn, take_drop_len, List.length_append, List.length_take, List.length_drop, ← rn_app, Int.sub_zero]; (try simp (disch := omega) only [wrap_in, Int.toNat_natCast, tv_rn, tv_ch0, tv_ch1, tv_ch2]); subst hk))
    | with_reducible first | refine Kt_p ?_ | refine Kt_i (by kernel_rfl) ?_ | refine Kr_f (by kernel_rfl) ?_
    | (with_reducible refine Kr_t ?_; simp only [List.length_append, List.length_cons, List.length_nil, Nat.reduceAdd, Nat.reduceSub, List.drop_succ_cons, List.drop_zero])
    | with_reducible first | refine vR_nil ?_ | refine KtR_i (by kernel_rfl) ?_ | refine KrR_i (by kernel_rfl) ?_ | refine vR_skip (by decide) ?_
    | ((with_reducible refine vB_i ?_ ?_) <;> intro _ <;> (first | (exfalso; omega) | (exact absurd trivial ‹¬True›) | (try dsimp only [])))
    | ((with_reducible refine vOps_nil' ?_); refine Kr_i (by kernel_rfl) ?_; generalize hk : plain _ _ = G; simp only [lv, E3, E2, E5, rawX, deadX, SB, List.not_mem_nil, ↓reduceIte, ne_eq, reduceCtorEq, Nat.reduceLT, Nat.reduceEqDiff, Nat.reduceAdd, Nat.reduceMul, Nat.reduceLeDiff, Nat.reduceDiv, Nat.reduceMod, Nat.reduceSub, Nat.reduceBEq, rn_len, chs_len, chs_cnt, List.length_map, Ch.x, Ch.inv, Opn.x, St.x, cut_rn, take_drop_len, List.length_append, List.length_take, List.length_drop, ← rn_app, Int.sub_zero] at hk; subst hk)
    | with_reducible refine vSeq_i ?_
    | with_reducible first | refine vRegion_i (by kernel_rfl) ?_ | refine Kv_i ?_
    | ((with_reducible apply vStrK_i); (focus (rfl; done)))
    | ((with_reducible refine imp_i ?_); intro _)
    | with_reducible first | refine Ks_n ?_ | refine Ks_r ?_ | refine Ks_e ?_ | refine Kl_e ?_ | refine Kx_n ?_ | refine Kl_r ?_ | refine vRet_i ?_ | refine vSkip_i ?_ | refine vExit_i ?_ | refine vBlock_i ?_ | refine Ks_p ?_ | refine Kl_p ?_ | refine blk_p ?_ | exact Kb_p | refine vGoto_i ?_ | refine vLabel_i ?_ | refine Ks_g ?_ | refine Kl_g ?_ | refine blk_g ?_ | refine jmp_g ?_ | refine jmp_n ?_ | refine jmp_r ?_ | refine nog_n ?_ | refine nog_r ?_ | refine blk_n ?_ | refine blk_r ?_ | refine blk_e ?_ | refine blk_o (by decide) ?_ | refine cp_t ?_ | refine cp_f ?_
    | ((with_reducible apply vCond_x); (focus (simp only [lv, E1, E2, E5, ET, T, orc_mv, noO_mv, mvB, orc_bx, noO_bx, bxB, fwd, fwds, inv, mOk, Int.toNat_natCast, Nat.div_one, Nat.mul_one, Int.reduceToNat, SB, List.not_mem_nil, ↓reduceIte, ne_eq, reduceCtorEq, Nat.reduceLT, Nat.reduceEqDiff, Nat.reduceAdd, Nat.reduceMul, Nat.reduceLeDiff, Nat.reduceDiv, Nat.reduceMod, Nat.reduceSub, Nat.reduceBEq, rn_len, chs_len, chs_cnt, List.length_map, Ch.x, Ch.inv, Opn.x, St.x, cut_rn, take_drop_len, List.length_append, List.length_take, List.length_drop, ← rn_app, Int.sub_zero]; with_reducible first | exact Eq.refl (bo true) | exact Eq.refl (bo false))))
    | ((with_reducible refine And.intro ?_ ?_); (focus (try omega)))
  · refine Kf_r ?_
    simp only [Try.f17, E4, E3, E2, E5, rawX, deadX, ET, T, SB, List.not_mem_nil, ↓reduceIte, ne_eq, reduceCtorEq, Nat.reduceLT, Nat.reduceEqDiff, Nat.reduceAdd, Nat.reduceMul, Nat.reduceLeDiff, Nat.reduceDiv, Nat.reduceMod, Nat.reduceSub, Nat.reduceBEq, rn_len, chs_len, chs_cnt, List.length_map, Ch.x, Ch.inv, Opn.x, St.x, cut_rn, take_drop_len, List.length_append, List.length_take, List.length_drop, ← rn_app, Int.sub_zero, X.p.injEq, X.tup.injEq, PX.one.injEq, PX.agg.injEq, TV.v.injEq, TV.sr.injEq, SV.raw.injEq, SV.sl.injEq, Value.bool.injEq, Value.int.injEq, List.cons.injEq, Prod.mk.injEq, true_and, and_true, and_self]
    unfold rightF; rw [if_pos (by omega)]
  · refine Kf_r ?_
    simp only [Try.f17, E4, E3, E2, E5, rawX, deadX, ET, T, SB, List.not_mem_nil, ↓reduceIte, ne_eq, reduceCtorEq, Nat.reduceLT, Nat.reduceEqDiff, Nat.reduceAdd, Nat.reduceMul, Nat.reduceLeDiff, Nat.reduceDiv, Nat.reduceMod, Nat.reduceSub, Nat.reduceBEq, rn_len, chs_len, chs_cnt, List.length_map, Ch.x, Ch.inv, Opn.x, St.x, cut_rn, take_drop_len, List.length_append, List.length_take, List.length_drop, ← rn_app, Int.sub_zero, X.p.injEq, X.tup.injEq, PX.one.injEq, PX.agg.injEq, TV.v.injEq, TV.sr.injEq, SV.raw.injEq, SV.sl.injEq, Value.bool.injEq, Value.int.injEq, List.cons.injEq, Prod.mk.injEq, true_and, and_true, and_self]
    unfold rightF; rw [if_pos (by omega)]
  · rename_i h1 h2
    generalize hQ : GEx.blk 0 _ = Q
    have key : ∀ (cur : List Int) (ok : Bool) (i : Int), walkN (s.undo.map Ch.inv) s.undo.length s.text = ok →
        Q (.exit 0) [(.t 1, .t (.p (.one (.pr 0 0)))), (.t 3, .t (sl (rn cur))), (.t 4, .t (bo ok)), (.t 5, .t (i64 i)), (.t 35, .t (bo false)), (.box 0, .box 25 [.v (.sl 1 (rn s.text)), .v (.sl 3 (chs s.undo)), .v (.sl 3 (chs s.redo))])] := by
      intro cur ok i hw
      subst hQ
      repeat' first
        | ((first
            | ((with_reducible refine vR_cons (by decide) ?_); generalize hk : KtR _ _ _ _ _ _ _ _ _ _ = k)
            | ((first
            | with_reducible refine vOps_cons' ?_) <;> generalize hk : Kt _ _ _ _ _ _ _ _ _ = k)) <;> (simp only [Try.f17, lv, E1, E2, E5, ET, T, orc_mv, noO_mv, mvB, orc_bx, noO_bx, bxB, fwd, fwds, inv, mOk, Int.toNat_natCast, Nat.div_one, Nat.mul_one, Int.reduceToNat, SB, List.not_mem_nil, ↓reduceIte, ne_eq, reduceCtorEq, Nat.reduceLT, Nat.reduceEqDiff, Nat.reduceAdd, Nat.reduceMul, Nat.reduceLeDiff, Nat.reduceDiv, Nat.reduceMod, Nat.reduceSub, Nat.reduceBEq, rn_len, chs_len, chs_cnt, List.length_map, Ch.x, Ch.inv, Opn.x, St.x, cut_rn, take_drop_len, List.length_append, List.length_take, List.length_drop, ← rn_app, Int.sub_zero]; (try simp (disch := omega) only [wrap_in, Int.toNat_natCast, tv_rn, tv_ch0, tv_ch1, tv_ch2]); subst hk))
        | with_reducible first | refine Kt_p ?_ | refine Kt_i (by kernel_rfl) ?_ | refine Kr_f (by kernel_rfl) ?_
        | (with_reducible refine Kr_t ?_; simp only [List.length_append, List.length_cons, List.length_nil, Nat.reduceAdd, Nat.reduceSub, List.drop_succ_cons, List.drop_zero])
        | with_reducible first | refine vR_nil ?_ | refine KtR_i (by kernel_rfl) ?_ | refine KrR_i (by kernel_rfl) ?_ | refine vR_skip (by decide) ?_
        | ((with_reducible refine vB_i ?_ ?_) <;> intro _ <;> (first | (exfalso; omega) | (exact absurd trivial ‹¬True›) | (try dsimp only [])))
        | ((with_reducible refine vOps_nil' ?_); refine Kr_i (by kernel_rfl) ?_; generalize hk : plain _ _ = G; simp only [lv, E3, E2, E5, rawX, deadX, SB, List.not_mem_nil, ↓reduceIte, ne_eq, reduceCtorEq, Nat.reduceLT, Nat.reduceEqDiff, Nat.reduceAdd, Nat.reduceMul, Nat.reduceLeDiff, Nat.reduceDiv, Nat.reduceMod, Nat.reduceSub, Nat.reduceBEq, rn_len, chs_len, chs_cnt, List.length_map, Ch.x, Ch.inv, Opn.x, St.x, cut_rn, take_drop_len, List.length_append, List.length_take, List.length_drop, ← rn_app, Int.sub_zero] at hk; subst hk)
        | with_reducible refine vSeq_i ?_
        | with_reducible first | refine vRegion_i (by kernel_rfl) ?_ | refine Kv_i ?_
        | ((with_reducible apply vStrK_i); (focus (rfl; done)))
        | ((with_reducible refine imp_i ?_); intro _)
        | with_reducible first | refine Ks_n ?_ | refine Ks_r ?_ | refine Ks_e ?_ | refine Kl_e ?_ | refine Kx_n ?_ | refine Kl_r ?_ | refine vRet_i ?_ | refine vSkip_i ?_ | refine vExit_i ?_ | refine vBlock_i ?_ | refine Ks_p ?_ | refine Kl_p ?_ | refine blk_p ?_ | exact Kb_p | refine vGoto_i ?_ | refine vLabel_i ?_ | refine Ks_g ?_ | refine Kl_g ?_ | refine blk_g ?_ | refine jmp_g ?_ | refine jmp_n ?_ | refine jmp_r ?_ | refine nog_n ?_ | refine nog_r ?_ | refine blk_n ?_ | refine blk_r ?_ | refine blk_e ?_ | refine blk_o (by decide) ?_ | refine cp_t ?_ | refine cp_f ?_
        | ((with_reducible apply vCond_x); (focus (simp only [lv, E1, E2, E5, ET, T, orc_mv, noO_mv, mvB, orc_bx, noO_bx, bxB, fwd, fwds, inv, mOk, Int.toNat_natCast, Nat.div_one, Nat.mul_one, Int.reduceToNat, SB, List.not_mem_nil, ↓reduceIte, ne_eq, reduceCtorEq, Nat.reduceLT, Nat.reduceEqDiff, Nat.reduceAdd, Nat.reduceMul, Nat.reduceLeDiff, Nat.reduceDiv, Nat.reduceMod, Nat.reduceSub, Nat.reduceBEq, rn_len, chs_len, chs_cnt, List.length_map, Ch.x, Ch.inv, Opn.x, St.x, cut_rn, take_drop_len, List.length_append, List.length_take, List.length_drop, ← rn_app, Int.sub_zero]; with_reducible first | exact Eq.refl (bo true) | exact Eq.refl (bo false))))
        | ((with_reducible refine And.intro ?_ ?_); (focus (try omega)))
      generalize hQ : GEx.blk 2 _ = Q
      have key2 : ∀ (cur : List Int) (ok2 : Bool) (i : Int), (ok && walkN s.redo s.redo.length s.text) = ok2 →
          Q (.exit 2) [(.t 1, .t (.p (.one (.pr 0 0)))), (.t 3, .t (sl (rn cur))), (.t 4, .t (bo ok2)), (.t 6, .t (i64 i)), (.t 59, .t (bo false)), (.box 0, .box 25 [.v (.sl 1 (rn s.text)), .v (.sl 3 (chs s.undo)), .v (.sl 3 (chs s.redo))])] := by
        intro cur2 ok2 i2 hw2
        subst hQ
        cases ok2
        all_goals
          repeat' first
            | ((first
                | ((with_reducible refine vR_cons (by decide) ?_); generalize hk : KtR _ _ _ _ _ _ _ _ _ _ = k)
                | ((first
                | with_reducible refine vOps_cons' ?_) <;> generalize hk : Kt _ _ _ _ _ _ _ _ _ = k)) <;> (simp only [Try.f17, lv, E1, E2, E5, ET, T, orc_mv, noO_mv, mvB, orc_bx, noO_bx, bxB, fwd, fwds, inv, mOk, Int.toNat_natCast, Nat.div_one, Nat.mul_one, Int.reduceToNat, SB, List.not_mem_nil, ↓reduceIte, ne_eq, reduceCtorEq, Nat.reduceLT, Nat.reduceEqDiff, Nat.reduceAdd, Nat.reduceMul, Nat.reduceLeDiff, Nat.reduceDiv, Nat.reduceMod, Nat.reduceSub, Nat.reduceBEq, rn_len, chs_len, chs_cnt, List.length_map, Ch.x, Ch.inv, Opn.x, St.x, cut_rn, take_drop_len, List.length_append, List.length_take, List.length_drop, ← rn_app, Int.sub_zero]; (try simp (disch := omega) only [wrap_in, Int.toNat_natCast, tv_rn, tv_ch0, tv_ch1, tv_ch2]); subst hk))
            | with_reducible first | refine Kt_p ?_ | refine Kt_i (by kernel_rfl) ?_ | refine Kr_f (by kernel_rfl) ?_
            | (with_reducible refine Kr_t ?_; simp only [List.length_append, List.length_cons, List.length_nil, Nat.reduceAdd, Nat.reduceSub, List.drop_succ_cons, List.drop_zero])
            | with_reducible first | refine vR_nil ?_ | refine KtR_i (by kernel_rfl) ?_ | refine KrR_i (by kernel_rfl) ?_ | refine vR_skip (by decide) ?_
            | ((with_reducible refine vB_i ?_ ?_) <;> intro _ <;> (first | (exfalso; omega) | (exact absurd trivial ‹¬True›) | (try dsimp only [])))
            | ((with_reducible refine vOps_nil' ?_); refine Kr_i (by kernel_rfl) ?_; generalize hk : plain _ _ = G; simp only [lv, E3, E2, E5, rawX, deadX, SB, List.not_mem_nil, ↓reduceIte, ne_eq, reduceCtorEq, Nat.reduceLT, Nat.reduceEqDiff, Nat.reduceAdd, Nat.reduceMul, Nat.reduceLeDiff, Nat.reduceDiv, Nat.reduceMod, Nat.reduceSub, Nat.reduceBEq, rn_len, chs_len, chs_cnt, List.length_map, Ch.x, Ch.inv, Opn.x, St.x, cut_rn, take_drop_len, List.length_append, List.length_take, List.length_drop, ← rn_app, Int.sub_zero] at hk; subst hk)
            | with_reducible refine vSeq_i ?_
            | with_reducible first | refine vRegion_i (by kernel_rfl) ?_ | refine Kv_i ?_
            | ((with_reducible apply vStrK_i); (focus (rfl; done)))
            | ((with_reducible refine imp_i ?_); intro _)
            | with_reducible first | refine Ks_n ?_ | refine Ks_r ?_ | refine Ks_e ?_ | refine Kl_e ?_ | refine Kx_n ?_ | refine Kl_r ?_ | refine vRet_i ?_ | refine vSkip_i ?_ | refine vExit_i ?_ | refine vBlock_i ?_ | refine Ks_p ?_ | refine Kl_p ?_ | refine blk_p ?_ | exact Kb_p | refine vGoto_i ?_ | refine vLabel_i ?_ | refine Ks_g ?_ | refine Kl_g ?_ | refine blk_g ?_ | refine jmp_g ?_ | refine jmp_n ?_ | refine jmp_r ?_ | refine nog_n ?_ | refine nog_r ?_ | refine blk_n ?_ | refine blk_r ?_ | refine blk_e ?_ | refine blk_o (by decide) ?_ | refine cp_t ?_ | refine cp_f ?_
            | ((with_reducible apply vCond_x); (focus (simp only [lv, E1, E2, E5, ET, T, orc_mv, noO_mv, mvB, orc_bx, noO_bx, bxB, fwd, fwds, inv, mOk, Int.toNat_natCast, Nat.div_one, Nat.mul_one, Int.reduceToNat, SB, List.not_mem_nil, ↓reduceIte, ne_eq, reduceCtorEq, Nat.reduceLT, Nat.reduceEqDiff, Nat.reduceAdd, Nat.reduceMul, Nat.reduceLeDiff, Nat.reduceDiv, Nat.reduceMod, Nat.reduceSub, Nat.reduceBEq, rn_len, chs_len, chs_cnt, List.length_map, Ch.x, Ch.inv, Opn.x, St.x, cut_rn, take_drop_len, List.length_append, List.length_take, List.length_drop, ← rn_app, Int.sub_zero]; with_reducible first | exact Eq.refl (bo true) | exact Eq.refl (bo false))))
            | ((with_reducible refine And.intro ?_ ?_); (focus (try omega)))
          refine Kf_r ?_
          simp only [Try.f17, E4, E3, E2, E5, rawX, deadX, ET, T, SB, List.not_mem_nil, ↓reduceIte, ne_eq, reduceCtorEq, Nat.reduceLT, Nat.reduceEqDiff, Nat.reduceAdd, Nat.reduceMul, Nat.reduceLeDiff, Nat.reduceDiv, Nat.reduceMod, Nat.reduceSub, Nat.reduceBEq, rn_len, chs_len, chs_cnt, List.length_map, Ch.x, Ch.inv, Opn.x, St.x, cut_rn, take_drop_len, List.length_append, List.length_take, List.length_drop, ← rn_app, Int.sub_zero, X.p.injEq, X.tup.injEq, PX.one.injEq, PX.agg.injEq, TV.v.injEq, TV.sr.injEq, SV.raw.injEq, SV.sl.injEq, Value.bool.injEq, Value.int.injEq, List.cons.injEq, Prod.mk.injEq, true_and, and_true, and_self]
          unfold rightF
          rw [if_neg (by omega), if_neg (fun h => h hb), hw, hw2]
          rfl
      refine vLoop_s (fun z : Nat × List Int × Bool => [(.t 1, .t (.p (.one (.pr 0 0)))), (.t 3, .t (sl (rn z.2.1))), (.t 4, .t (bo z.2.2)), (.t 6, .t (i64 ((z.1 : Int) - 1))), (.box 0, .box 25 [.v (.sl 1 (rn s.text)), .v (.sl 3 (chs s.undo)), .v (.sl 3 (chs s.redo))])])
        (fun z => z.1 ≤ s.redo.length ∧ (z.2.2 = true → z.2.1.length ≤ 100000) ∧ (ok && walkN s.redo s.redo.length s.text) = (z.2.2 && walkN s.redo z.1 z.2.1)) (fun z => z.1) (s.redo.length, s.text, ok) ⟨Nat.le_refl _, fun _ => ht, rfl⟩ rfl ?_
      rintro ⟨n, cur, b⟩ ⟨hn, hc, hw3⟩
      dsimp only at hn hc hw3 ⊢
      cases b
      · skip
        repeat' first
          | ((first
              | ((with_reducible refine vR_cons (by decide) ?_); generalize hk : KtR _ _ _ _ _ _ _ _ _ _ = k)
              | ((first
              | with_reducible refine vOps_cons' ?_) <;> generalize hk : Kt _ _ _ _ _ _ _ _ _ = k)) <;> (simp only [Try.f17, lv, E1, E2, E5, ET, T, orc_mv, noO_mv, mvB, orc_bx, noO_bx, bxB, fwd, fwds, inv, mOk, Int.toNat_natCast, Nat.div_one, Nat.mul_one, Int.reduceToNat, SB, List.not_mem_nil, ↓reduceIte, ne_eq, reduceCtorEq, Nat.reduceLT, Nat.reduceEqDiff, Nat.reduceAdd, Nat.reduceMul, Nat.reduceLeDiff, Nat.reduceDiv, Nat.reduceMod, Nat.reduceSub, Nat.reduceBEq, rn_len, chs_len, chs_cnt, List.length_map, Ch.x, Ch.inv, Opn.x, St.x, cut_rn, take_drop_len, List.length_append, List.length_take, List.length_drop, ← rn_app, Int.sub_zero]; (try simp (disch := omega) only [wrap_in, Int.toNat_natCast, tv_rn, tv_ch0, tv_ch1, tv_ch2]); subst hk))
          | with_reducible first | refine Kt_p ?_ | refine Kt_i (by kernel_rfl) ?_ | refine Kr_f (by kernel_rfl) ?_
          | (with_reducible refine Kr_t ?_; simp only [List.length_append, List.length_cons, List.length_nil, Nat.reduceAdd, Nat.reduceSub, List.drop_succ_cons, List.drop_zero])
          | with_reducible first | refine vR_nil ?_ | refine KtR_i (by kernel_rfl) ?_ | refine KrR_i (by kernel_rfl) ?_ | refine vR_skip (by decide) ?_
          | ((with_reducible refine vB_i ?_ ?_) <;> intro _ <;> (first | (exfalso; omega) | (exact absurd trivial ‹¬True›) | (try dsimp only [])))
          | ((with_reducible refine vOps_nil' ?_); refine Kr_i (by kernel_rfl) ?_; generalize hk : plain _ _ = G; simp only [lv, E3, E2, E5, rawX, deadX, SB, List.not_mem_nil, ↓reduceIte, ne_eq, reduceCtorEq, Nat.reduceLT, Nat.reduceEqDiff, Nat.reduceAdd, Nat.reduceMul, Nat.reduceLeDiff, Nat.reduceDiv, Nat.reduceMod, Nat.reduceSub, Nat.reduceBEq, rn_len, chs_len, chs_cnt, List.length_map, Ch.x, Ch.inv, Opn.x, St.x, cut_rn, take_drop_len, List.length_append, List.length_take, List.length_drop, ← rn_app, Int.sub_zero] at hk; subst hk)
          | with_reducible refine vSeq_i ?_
          | with_reducible first | refine vRegion_i (by kernel_rfl) ?_ | refine Kv_i ?_
          | ((with_reducible apply vStrK_i); (focus (rfl; done)))
          | ((with_reducible refine imp_i ?_); intro _)
          | with_reducible first | refine Ks_n ?_ | refine Ks_r ?_ | refine Ks_e ?_ | refine Kl_e ?_ | refine Kx_n ?_ | refine Kl_r ?_ | refine vRet_i ?_ | refine vSkip_i ?_ | refine vExit_i ?_ | refine vBlock_i ?_ | refine Ks_p ?_ | refine Kl_p ?_ | refine blk_p ?_ | exact Kb_p | refine vGoto_i ?_ | refine vLabel_i ?_ | refine Ks_g ?_ | refine Kl_g ?_ | refine blk_g ?_ | refine jmp_g ?_ | refine jmp_n ?_ | refine jmp_r ?_ | refine nog_n ?_ | refine nog_r ?_ | refine blk_n ?_ | refine blk_r ?_ | refine blk_e ?_ | refine blk_o (by decide) ?_ | refine cp_t ?_ | refine cp_f ?_
          | ((with_reducible apply vCond_x); (focus (simp only [lv, E1, E2, E5, ET, T, orc_mv, noO_mv, mvB, orc_bx, noO_bx, bxB, fwd, fwds, inv, mOk, Int.toNat_natCast, Nat.div_one, Nat.mul_one, Int.reduceToNat, SB, List.not_mem_nil, ↓reduceIte, ne_eq, reduceCtorEq, Nat.reduceLT, Nat.reduceEqDiff, Nat.reduceAdd, Nat.reduceMul, Nat.reduceLeDiff, Nat.reduceDiv, Nat.reduceMod, Nat.reduceSub, Nat.reduceBEq, rn_len, chs_len, chs_cnt, List.length_map, Ch.x, Ch.inv, Opn.x, St.x, cut_rn, take_drop_len, List.length_append, List.length_take, List.length_drop, ← rn_app, Int.sub_zero]; with_reducible first | exact Eq.refl (bo true) | exact Eq.refl (bo false))))
          | ((with_reducible refine And.intro ?_ ?_); (focus (try omega)))
        all_goals exact key2 _ _ _ (by rw [hw3]; rfl)
      rcases n with _ | m
      · skip
        repeat' first
          | ((first
              | ((with_reducible refine vR_cons (by decide) ?_); generalize hk : KtR _ _ _ _ _ _ _ _ _ _ = k)
              | ((first
              | with_reducible refine vOps_cons' ?_) <;> generalize hk : Kt _ _ _ _ _ _ _ _ _ = k)) <;> (simp only [Try.f17, lv, E1, E2, E5, ET, T, orc_mv, noO_mv, mvB, orc_bx, noO_bx, bxB, fwd, fwds, inv, mOk, Int.toNat_natCast, Nat.div_one, Nat.mul_one, Int.reduceToNat, SB, List.not_mem_nil, ↓reduceIte, ne_eq, reduceCtorEq, Nat.reduceLT, Nat.reduceEqDiff, Nat.reduceAdd, Nat.reduceMul, Nat.reduceLeDiff, Nat.reduceDiv, Nat.reduceMod, Nat.reduceSub, Nat.reduceBEq, rn_len, chs_len, chs_cnt, List.length_map, Ch.x, Ch.inv, Opn.x, St.x, cut_rn, take_drop_len, List.length_append, List.length_take, List.length_drop, ← rn_app, Int.sub_zero]; (try simp (disch := omega) only [wrap_in, Int.toNat_natCast, tv_rn, tv_ch0, tv_ch1, tv_ch2]); subst hk))
          | with_reducible first | refine Kt_p ?_ | refine Kt_i (by kernel_rfl) ?_ | refine Kr_f (by kernel_rfl) ?_
          | (with_reducible refine Kr_t ?_; simp only [List.length_append, List.length_cons, List.length_nil, Nat.reduceAdd, Nat.reduceSub, List.drop_succ_cons, List.drop_zero])
          | with_reducible first | refine vR_nil ?_ | refine KtR_i (by kernel_rfl) ?_ | refine KrR_i (by kernel_rfl) ?_ | refine vR_skip (by decide) ?_
          | ((with_reducible refine vB_i ?_ ?_) <;> intro _ <;> (first | (exfalso; omega) | (exact absurd trivial ‹¬True›) | (try dsimp only [])))
          | ((with_reducible refine vOps_nil' ?_); refine Kr_i (by kernel_rfl) ?_; generalize hk : plain _ _ = G; simp only [lv, E3, E2, E5, rawX, deadX, SB, List.not_mem_nil, ↓reduceIte, ne_eq, reduceCtorEq, Nat.reduceLT, Nat.reduceEqDiff, Nat.reduceAdd, Nat.reduceMul, Nat.reduceLeDiff, Nat.reduceDiv, Nat.reduceMod, Nat.reduceSub, Nat.reduceBEq, rn_len, chs_len, chs_cnt, List.length_map, Ch.x, Ch.inv, Opn.x, St.x, cut_rn, take_drop_len, List.length_append, List.length_take, List.length_drop, ← rn_app, Int.sub_zero] at hk; subst hk)
          | with_reducible refine vSeq_i ?_
          | with_reducible first | refine vRegion_i (by kernel_rfl) ?_ | refine Kv_i ?_
          | ((with_reducible apply vStrK_i); (focus (rfl; done)))
          | ((with_reducible refine imp_i ?_); intro _)
          | with_reducible first | refine Ks_n ?_ | refine Ks_r ?_ | refine Ks_e ?_ | refine Kl_e ?_ | refine Kx_n ?_ | refine Kl_r ?_ | refine vRet_i ?_ | refine vSkip_i ?_ | refine vExit_i ?_ | refine vBlock_i ?_ | refine Ks_p ?_ | refine Kl_p ?_ | refine blk_p ?_ | exact Kb_p | refine vGoto_i ?_ | refine vLabel_i ?_ | refine Ks_g ?_ | refine Kl_g ?_ | refine blk_g ?_ | refine jmp_g ?_ | refine jmp_n ?_ | refine jmp_r ?_ | refine nog_n ?_ | refine nog_r ?_ | refine blk_n ?_ | refine blk_r ?_ | refine blk_e ?_ | refine blk_o (by decide) ?_ | refine cp_t ?_ | refine cp_f ?_
          | ((with_reducible apply vCond_x); (focus (simp only [lv, E1, E2, E5, ET, T, orc_mv, noO_mv, mvB, orc_bx, noO_bx, bxB, fwd, fwds, inv, mOk, Int.toNat_natCast, Nat.div_one, Nat.mul_one, Int.reduceToNat, SB, List.not_mem_nil, ↓reduceIte, ne_eq, reduceCtorEq, Nat.reduceLT, Nat.reduceEqDiff, Nat.reduceAdd, Nat.reduceMul, Nat.reduceLeDiff, Nat.reduceDiv, Nat.reduceMod, Nat.reduceSub, Nat.reduceBEq, rn_len, chs_len, chs_cnt, List.length_map, Ch.x, Ch.inv, Opn.x, St.x, cut_rn, take_drop_len, List.length_append, List.length_take, List.length_drop, ← rn_app, Int.sub_zero]; with_reducible first | exact Eq.refl (bo true) | exact Eq.refl (bo false))))
          | ((with_reducible refine And.intro ?_ ?_); (focus (try omega)))
        all_goals exact key2 _ _ _ (by rw [hw3]; rfl)
      · rw [show (((m + 1 : Nat) : Int) - 1) = (m : Int) by omega]
        have hcm : (s.redo.getD m noCh).ok := hd _ (mem_getD (by omega))
        repeat' first
          | ((first
              | ((with_reducible refine vR_cons (by decide) ?_); generalize hk : KtR _ _ _ _ _ _ _ _ _ _ = k)
              | ((first
              | with_reducible refine vOps_cons' ?_
              | ((with_reducible apply orc_i); (focus (exact refDone_ok' cur (s.redo.getD m noCh) (hc rfl) hcm; done)))) <;> generalize hk : Kt _ _ _ _ _ _ _ _ _ = k)) <;> (simp only [Try.f17, lv, E1, E2, E5, ET, T, orc_mv, noO_mv, mvB, orc_bx, noO_bx, bxB, fwd, fwds, inv, mOk, Int.toNat_natCast, Nat.div_one, Nat.mul_one, Int.reduceToNat, SB, List.not_mem_nil, ↓reduceIte, ne_eq, reduceCtorEq, Nat.reduceLT, Nat.reduceEqDiff, Nat.reduceAdd, Nat.reduceMul, Nat.reduceLeDiff, Nat.reduceDiv, Nat.reduceMod, Nat.reduceSub, Nat.reduceBEq, rn_len, chs_len, chs_cnt, List.length_map, Ch.x, Ch.inv, Opn.x, St.x, cut_rn, take_drop_len, List.length_append, List.length_take, List.length_drop, ← rn_app, Int.sub_zero]; (try simp (disch := omega) only [wrap_in, Int.toNat_natCast, tv_rn, tv_ch0, tv_ch1, tv_ch2]); subst hk))
          | with_reducible first | refine Kt_p ?_ | refine Kt_i (by kernel_rfl) ?_ | refine Kr_f (by kernel_rfl) ?_
          | (with_reducible refine Kr_t ?_; simp only [List.length_append, List.length_cons, List.length_nil, Nat.reduceAdd, Nat.reduceSub, List.drop_succ_cons, List.drop_zero])
          | with_reducible first | refine vR_nil ?_ | refine KtR_i (by kernel_rfl) ?_ | refine KrR_i (by kernel_rfl) ?_ | refine vR_skip (by decide) ?_
          | ((with_reducible refine vB_i ?_ ?_) <;> intro _ <;> (first | (exfalso; omega) | (exact absurd trivial ‹¬True›) | (try dsimp only [])))
          | ((with_reducible refine vOps_nil' ?_); refine Kr_i (by kernel_rfl) ?_; generalize hk : plain _ _ = G; simp only [lv, E3, E2, E5, rawX, deadX, SB, List.not_mem_nil, ↓reduceIte, ne_eq, reduceCtorEq, Nat.reduceLT, Nat.reduceEqDiff, Nat.reduceAdd, Nat.reduceMul, Nat.reduceLeDiff, Nat.reduceDiv, Nat.reduceMod, Nat.reduceSub, Nat.reduceBEq, rn_len, chs_len, chs_cnt, List.length_map, Ch.x, Ch.inv, Opn.x, St.x, cut_rn, take_drop_len, List.length_append, List.length_take, List.length_drop, ← rn_app, Int.sub_zero] at hk; subst hk)
          | with_reducible refine vSeq_i ?_
          | with_reducible first | refine vRegion_i (by kernel_rfl) ?_ | refine Kv_i ?_
          | ((with_reducible apply vStrK_i); (focus (rfl; done)))
          | ((with_reducible refine imp_i ?_); intro _)
          | with_reducible first | refine Ks_n ?_ | refine Ks_r ?_ | refine Ks_e ?_ | refine Kl_e ?_ | refine Kx_n ?_ | refine Kl_r ?_ | refine vRet_i ?_ | refine vSkip_i ?_ | refine vExit_i ?_ | refine vBlock_i ?_ | refine Ks_p ?_ | refine Kl_p ?_ | refine blk_p ?_ | exact Kb_p | refine vGoto_i ?_ | refine vLabel_i ?_ | refine Ks_g ?_ | refine Kl_g ?_ | refine blk_g ?_ | refine jmp_g ?_ | refine jmp_n ?_ | refine jmp_r ?_ | refine nog_n ?_ | refine nog_r ?_ | refine blk_n ?_ | refine blk_r ?_ | refine blk_e ?_ | refine blk_o (by decide) ?_ | refine cp_t ?_ | refine cp_f ?_
          | ((with_reducible apply vCond_x); (focus (simp only [lv, E1, E2, E5, ET, T, orc_mv, noO_mv, mvB, orc_bx, noO_bx, bxB, fwd, fwds, inv, mOk, Int.toNat_natCast, Nat.div_one, Nat.mul_one, Int.reduceToNat, SB, List.not_mem_nil, ↓reduceIte, ne_eq, reduceCtorEq, Nat.reduceLT, Nat.reduceEqDiff, Nat.reduceAdd, Nat.reduceMul, Nat.reduceLeDiff, Nat.reduceDiv, Nat.reduceMod, Nat.reduceSub, Nat.reduceBEq, rn_len, chs_len, chs_cnt, List.length_map, Ch.x, Ch.inv, Opn.x, St.x, cut_rn, take_drop_len, List.length_append, List.length_take, List.length_drop, ← rn_app, Int.sub_zero]; with_reducible first | exact Eq.refl (bo true) | exact Eq.refl (bo false))))
          | ((with_reducible refine And.intro ?_ ?_); (focus (try omega)))
        refine Kl_n ⟨(m, (if (s.redo.getD m noCh).good cur then (s.redo.getD m noCh).done cur else []), decide ((s.redo.getD m noCh).good cur ∧ ((s.redo.getD m noCh).done cur).length ≤ 4096)), ⟨by omega, walk_len, ?_⟩, by omega, ?_⟩
        · dsimp only
          rw [hw3, walk_step, Bool.true_and]
        · rfl
    refine vLoop_s (fun z : Nat × List Int × Bool => [(.t 1, .t (.p (.one (.pr 0 0)))), (.t 3, .t (sl (rn z.2.1))), (.t 4, .t (bo z.2.2)), (.t 5, .t (i64 ((z.1 : Int) - 1))), (.box 0, .box 25 [.v (.sl 1 (rn s.text)), .v (.sl 3 (chs s.undo)), .v (.sl 3 (chs s.redo))])])
      (fun z => z.1 ≤ s.undo.length ∧ (z.2.2 = true → z.2.1.length ≤ 100000) ∧ (true && walkN (s.undo.map Ch.inv) s.undo.length s.text) = (z.2.2 && walkN (s.undo.map Ch.inv) z.1 z.2.1)) (fun z => z.1) (s.undo.length, s.text, true) ⟨Nat.le_refl _, fun _ => ht, rfl⟩ rfl ?_
    rintro ⟨n, cur, b⟩ ⟨hn, hc, hw3⟩
    dsimp only at hn hc hw3 ⊢
    cases b
    · skip
      repeat' first
        | ((first
            | ((with_reducible refine vR_cons (by decide) ?_); generalize hk : KtR _ _ _ _ _ _ _ _ _ _ = k)
            | ((first
            | with_reducible refine vOps_cons' ?_) <;> generalize hk : Kt _ _ _ _ _ _ _ _ _ = k)) <;> (simp only [Try.f17, lv, E1, E2, E5, ET, T, orc_mv, noO_mv, mvB, orc_bx, noO_bx, bxB, fwd, fwds, inv, mOk, Int.toNat_natCast, Nat.div_one, Nat.mul_one, Int.reduceToNat, SB, List.not_mem_nil, ↓reduceIte, ne_eq, reduceCtorEq, Nat.reduceLT, Nat.reduceEqDiff, Nat.reduceAdd, Nat.reduceMul, Nat.reduceLeDiff, Nat.reduceDiv, Nat.reduceMod, Nat.reduceSub, Nat.reduceBEq, rn_len, chs_len, chs_cnt, List.length_map, Ch.x, Ch.inv, Opn.x, St.x, cut_rn, take_drop_len, List.length_append, List.length_take, List.length_drop, ← rn_app, Int.sub_zero]; (try simp (disch := omega) only [wrap_in, Int.toNat_natCast, tv_rn, tv_ch0, tv_ch1, tv_ch2]); subst hk))
        | with_reducible first | refine Kt_p ?_ | refine Kt_i (by kernel_rfl) ?_ | refine Kr_f (by kernel_rfl) ?_
        | (with_reducible refine Kr_t ?_; simp only [List.length_append, List.length_cons, List.length_nil, Nat.reduceAdd, Nat.reduceSub, List.drop_succ_cons, List.drop_zero])
        | with_reducible first | refine vR_nil ?_ | refine KtR_i (by kernel_rfl) ?_ | refine KrR_i (by kernel_rfl) ?_ | refine vR_skip (by decide) ?_
        | ((with_reducible refine vB_i ?_ ?_) <;> intro _ <;> (first | (exfalso; omega) | (exact absurd trivial ‹¬True›) | (try dsimp only [])))
        | ((with_reducible refine vOps_nil' ?_); refine Kr_i (by kernel_rfl) ?_; generalize hk : plain _ _ = G; simp only [lv, E3, E2, E5, rawX, deadX, SB, List.not_mem_nil, ↓reduceIte, ne_eq, reduceCtorEq, Nat.reduceLT, Nat.reduceEqDiff, Nat.reduceAdd, Nat.reduceMul, Nat.reduceLeDiff, Nat.reduceDiv, Nat.reduceMod, Nat.reduceSub, Nat.reduceBEq, rn_len, chs_len, chs_cnt, List.length_map, Ch.x, Ch.inv, Opn.x, St.x, cut_rn, take_drop_len, List.length_append, List.length_take, List.length_drop, ← rn_app, Int.sub_zero] at hk; subst hk)
        | with_reducible refine vSeq_i ?_
        | with_reducible first | refine vRegion_i (by kernel_rfl) ?_ | refine Kv_i ?_
        | ((with_reducible apply vStrK_i); (focus (rfl; done)))
        | ((with_reducible refine imp_i ?_); intro _)
        | with_reducible first | refine Ks_n ?_ | refine Ks_r ?_ | refine Ks_e ?_ | refine Kl_e ?_ | refine Kx_n ?_ | refine Kl_r ?_ | refine vRet_i ?_ | refine vSkip_i ?_ | refine vExit_i ?_ | refine vBlock_i ?_ | refine Ks_p ?_ | refine Kl_p ?_ | refine blk_p ?_ | exact Kb_p | refine vGoto_i ?_ | refine vLabel_i ?_ | refine Ks_g ?_ | refine Kl_g ?_ | refine blk_g ?_ | refine jmp_g ?_ | refine jmp_n ?_ | refine jmp_r ?_ | refine nog_n ?_ | refine nog_r ?_ | refine blk_n ?_ | refine blk_r ?_ | refine blk_e ?_ | refine blk_o (by decide) ?_ | refine cp_t ?_ | refine cp_f ?_
        | ((with_reducible apply vCond_x); (focus (simp only [lv, E1, E2, E5, ET, T, orc_mv, noO_mv, mvB, orc_bx, noO_bx, bxB, fwd, fwds, inv, mOk, Int.toNat_natCast, Nat.div_one, Nat.mul_one, Int.reduceToNat, SB, List.not_mem_nil, ↓reduceIte, ne_eq, reduceCtorEq, Nat.reduceLT, Nat.reduceEqDiff, Nat.reduceAdd, Nat.reduceMul, Nat.reduceLeDiff, Nat.reduceDiv, Nat.reduceMod, Nat.reduceSub, Nat.reduceBEq, rn_len, chs_len, chs_cnt, List.length_map, Ch.x, Ch.inv, Opn.x, St.x, cut_rn, take_drop_len, List.length_append, List.length_take, List.length_drop, ← rn_app, Int.sub_zero]; with_reducible first | exact Eq.refl (bo true) | exact Eq.refl (bo false))))
        | ((with_reducible refine And.intro ?_ ?_); (focus (try omega)))
      all_goals exact key _ _ _ (by rw [← Bool.true_and (walkN (s.undo.map Ch.inv) s.undo.length s.text), hw3]; rfl)
    rcases n with _ | m
    · skip
      repeat' first
        | ((first
            | ((with_reducible refine vR_cons (by decide) ?_); generalize hk : KtR _ _ _ _ _ _ _ _ _ _ = k)
            | ((first
            | with_reducible refine vOps_cons' ?_) <;> generalize hk : Kt _ _ _ _ _ _ _ _ _ = k)) <;> (simp only [Try.f17, lv, E1, E2, E5, ET, T, orc_mv, noO_mv, mvB, orc_bx, noO_bx, bxB, fwd, fwds, inv, mOk, Int.toNat_natCast, Nat.div_one, Nat.mul_one, Int.reduceToNat, SB, List.not_mem_nil, ↓reduceIte, ne_eq, reduceCtorEq, Nat.reduceLT, Nat.reduceEqDiff, Nat.reduceAdd, Nat.reduceMul, Nat.reduceLeDiff, Nat.reduceDiv, Nat.reduceMod, Nat.reduceSub, Nat.reduceBEq, rn_len, chs_len, chs_cnt, List.length_map, Ch.x, Ch.inv, Opn.x, St.x, cut_rn, take_drop_len, List.length_append, List.length_take, List.length_drop, ← rn_app, Int.sub_zero]; (try simp (disch := omega) only [wrap_in, Int.toNat_natCast, tv_rn, tv_ch0, tv_ch1, tv_ch2]); subst hk))
        | with_reducible first | refine Kt_p ?_ | refine Kt_i (by kernel_rfl) ?_ | refine Kr_f (by kernel_rfl) ?_
        | (with_reducible refine Kr_t ?_; simp only [List.length_append, List.length_cons, List.length_nil, Nat.reduceAdd, Nat.reduceSub, List.drop_succ_cons, List.drop_zero])
        | with_reducible first | refine vR_nil ?_ | refine KtR_i (by kernel_rfl) ?_ | refine KrR_i (by kernel_rfl) ?_ | refine vR_skip (by decide) ?_
        | ((with_reducible refine vB_i ?_ ?_) <;> intro _ <;> (first | (exfalso; omega) | (exact absurd trivial ‹¬True›) | (try dsimp only [])))
        | ((with_reducible refine vOps_nil' ?_); refine Kr_i (by kernel_rfl) ?_; generalize hk : plain _ _ = G; simp only [lv, E3, E2, E5, rawX, deadX, SB, List.not_mem_nil, ↓reduceIte, ne_eq, reduceCtorEq, Nat.reduceLT, Nat.reduceEqDiff, Nat.reduceAdd, Nat.reduceMul, Nat.reduceLeDiff, Nat.reduceDiv, Nat.reduceMod, Nat.reduceSub, Nat.reduceBEq, rn_len, chs_len, chs_cnt, List.length_map, Ch.x, Ch.inv, Opn.x, St.x, cut_rn, take_drop_len, List.length_append, List.length_take, List.length_drop, ← rn_app, Int.sub_zero] at hk; subst hk)
        | with_reducible refine vSeq_i ?_
        | with_reducible first | refine vRegion_i (by kernel_rfl) ?_ | refine Kv_i ?_
        | ((with_reducible apply vStrK_i); (focus (rfl; done)))
        | ((with_reducible refine imp_i ?_); intro _)
        | with_reducible first | refine Ks_n ?_ | refine Ks_r ?_ | refine Ks_e ?_ | refine Kl_e ?_ | refine Kx_n ?_ | refine Kl_r ?_ | refine vRet_i ?_ | refine vSkip_i ?_ | refine vExit_i ?_ | refine vBlock_i ?_ | refine Ks_p ?_ | refine Kl_p ?_ | refine blk_p ?_ | exact Kb_p | refine vGoto_i ?_ | refine vLabel_i ?_ | refine Ks_g ?_ | refine Kl_g ?_ | refine blk_g ?_ | refine jmp_g ?_ | refine jmp_n ?_ | refine jmp_r ?_ | refine nog_n ?_ | refine nog_r ?_ | refine blk_n ?_ | refine blk_r ?_ | refine blk_e ?_ | refine blk_o (by decide) ?_ | refine cp_t ?_ | refine cp_f ?_
        | ((with_reducible apply vCond_x); (focus (simp only [lv, E1, E2, E5, ET, T, orc_mv, noO_mv, mvB, orc_bx, noO_bx, bxB, fwd, fwds, inv, mOk, Int.toNat_natCast, Nat.div_one, Nat.mul_one, Int.reduceToNat, SB, List.not_mem_nil, ↓reduceIte, ne_eq, reduceCtorEq, Nat.reduceLT, Nat.reduceEqDiff, Nat.reduceAdd, Nat.reduceMul, Nat.reduceLeDiff, Nat.reduceDiv, Nat.reduceMod, Nat.reduceSub, Nat.reduceBEq, rn_len, chs_len, chs_cnt, List.length_map, Ch.x, Ch.inv, Opn.x, St.x, cut_rn, take_drop_len, List.length_append, List.length_take, List.length_drop, ← rn_app, Int.sub_zero]; with_reducible first | exact Eq.refl (bo true) | exact Eq.refl (bo false))))
        | ((with_reducible refine And.intro ?_ ?_); (focus (try omega)))
      all_goals exact key _ _ _ (by rw [← Bool.true_and (walkN (s.undo.map Ch.inv) s.undo.length s.text), hw3]; rfl)
    · rw [show (((m + 1 : Nat) : Int) - 1) = (m : Int) by omega]
      have hcm : (s.undo.getD m noCh).ok := hu _ (mem_getD (by omega))
      repeat' first
        | ((first
            | ((with_reducible refine vR_cons (by decide) ?_); generalize hk : KtR _ _ _ _ _ _ _ _ _ _ = k)
            | ((first
            | with_reducible refine vOps_cons' ?_
            | ((with_reducible apply orc_i); (focus (exact turned_ok (s.undo.getD m noCh) hcm.small; done)))
            | ((with_reducible apply orc_i); (focus (exact refDone_ok' cur (s.undo.getD m noCh).inv (hc rfl) hcm.inv; done)))) <;> generalize hk : Kt _ _ _ _ _ _ _ _ _ = k)) <;> (simp only [Try.f17, lv, E1, E2, E5, ET, T, orc_mv, noO_mv, mvB, orc_bx, noO_bx, bxB, fwd, fwds, inv, mOk, Int.toNat_natCast, Nat.div_one, Nat.mul_one, Int.reduceToNat, SB, List.not_mem_nil, ↓reduceIte, ne_eq, reduceCtorEq, Nat.reduceLT, Nat.reduceEqDiff, Nat.reduceAdd, Nat.reduceMul, Nat.reduceLeDiff, Nat.reduceDiv, Nat.reduceMod, Nat.reduceSub, Nat.reduceBEq, rn_len, chs_len, chs_cnt, List.length_map, Ch.x, Ch.inv, Opn.x, St.x, cut_rn, take_drop_len, List.length_append, List.length_take, List.length_drop, ← rn_app, Int.sub_zero]; (try simp (disch := omega) only [wrap_in, Int.toNat_natCast, tv_rn, tv_ch0, tv_ch1, tv_ch2]); subst hk))
        | with_reducible first | refine Kt_p ?_ | refine Kt_i (by kernel_rfl) ?_ | refine Kr_f (by kernel_rfl) ?_
        | (with_reducible refine Kr_t ?_; simp only [List.length_append, List.length_cons, List.length_nil, Nat.reduceAdd, Nat.reduceSub, List.drop_succ_cons, List.drop_zero])
        | with_reducible first | refine vR_nil ?_ | refine KtR_i (by kernel_rfl) ?_ | refine KrR_i (by kernel_rfl) ?_ | refine vR_skip (by decide) ?_
        | ((with_reducible refine vB_i ?_ ?_) <;> intro _ <;> (first | (exfalso; omega) | (exact absurd trivial ‹¬True›) | (try dsimp only [])))
        | ((with_reducible refine vOps_nil' ?_); refine Kr_i (by kernel_rfl) ?_; generalize hk : plain _ _ = G; simp only [lv, E3, E2, E5, rawX, deadX, SB, List.not_mem_nil, ↓reduceIte, ne_eq, reduceCtorEq, Nat.reduceLT, Nat.reduceEqDiff, Nat.reduceAdd, Nat.reduceMul, Nat.reduceLeDiff, Nat.reduceDiv, Nat.reduceMod, Nat.reduceSub, Nat.reduceBEq, rn_len, chs_len, chs_cnt, List.length_map, Ch.x, Ch.inv, Opn.x, St.x, cut_rn, take_drop_len, List.length_append, List.length_take, List.length_drop, ← rn_app, Int.sub_zero] at hk; subst hk)
        | with_reducible refine vSeq_i ?_
        | with_reducible first | refine vRegion_i (by kernel_rfl) ?_ | refine Kv_i ?_
        | ((with_reducible apply vStrK_i); (focus (rfl; done)))
        | ((with_reducible refine imp_i ?_); intro _)
        | with_reducible first | refine Ks_n ?_ | refine Ks_r ?_ | refine Ks_e ?_ | refine Kl_e ?_ | refine Kx_n ?_ | refine Kl_r ?_ | refine vRet_i ?_ | refine vSkip_i ?_ | refine vExit_i ?_ | refine vBlock_i ?_ | refine Ks_p ?_ | refine Kl_p ?_ | refine blk_p ?_ | exact Kb_p | refine vGoto_i ?_ | refine vLabel_i ?_ | refine Ks_g ?_ | refine Kl_g ?_ | refine blk_g ?_ | refine jmp_g ?_ | refine jmp_n ?_ | refine jmp_r ?_ | refine nog_n ?_ | refine nog_r ?_ | refine blk_n ?_ | refine blk_r ?_ | refine blk_e ?_ | refine blk_o (by decide) ?_ | refine cp_t ?_ | refine cp_f ?_
        | ((with_reducible apply vCond_x); (focus (simp only [lv, E1, E2, E5, ET, T, orc_mv, noO_mv, mvB, orc_bx, noO_bx, bxB, fwd, fwds, inv, mOk, Int.toNat_natCast, Nat.div_one, Nat.mul_one, Int.reduceToNat, SB, List.not_mem_nil, ↓reduceIte, ne_eq, reduceCtorEq, Nat.reduceLT, Nat.reduceEqDiff, Nat.reduceAdd, Nat.reduceMul, Nat.reduceLeDiff, Nat.reduceDiv, Nat.reduceMod, Nat.reduceSub, Nat.reduceBEq, rn_len, chs_len, chs_cnt, List.length_map, Ch.x, Ch.inv, Opn.x, St.x, cut_rn, take_drop_len, List.length_append, List.length_take, List.length_drop, ← rn_app, Int.sub_zero]; with_reducible first | exact Eq.refl (bo true) | exact Eq.refl (bo false))))
        | ((with_reducible refine And.intro ?_ ?_); (focus (try omega)))
      refine Kl_n ⟨(m, (if (s.undo.getD m noCh).inv.good cur then (s.undo.getD m noCh).inv.done cur else []), decide ((s.undo.getD m noCh).inv.good cur ∧ ((s.undo.getD m noCh).inv.done cur).length ≤ 4096)), ⟨by omega, walk_len, ?_⟩, by omega, ?_⟩
      · dsimp only
        rw [hw3, walk_step, Bool.true_and, getD_inv]
      · rfl
  · refine Kf_r ?_
    simp only [Try.f17, E4, E3, E2, E5, rawX, deadX, ET, T, SB, List.not_mem_nil, ↓reduceIte, ne_eq, reduceCtorEq, Nat.reduceLT, Nat.reduceEqDiff, Nat.reduceAdd, Nat.reduceMul, Nat.reduceLeDiff, Nat.reduceDiv, Nat.reduceMod, Nat.reduceSub, Nat.reduceBEq, rn_len, chs_len, chs_cnt, List.length_map, Ch.x, Ch.inv, Opn.x, St.x, cut_rn, take_drop_len, List.length_append, List.length_take, List.length_drop, ← rn_app, Int.sub_zero, X.p.injEq, X.tup.injEq, PX.one.injEq, PX.agg.injEq, TV.v.injEq, TV.sr.injEq, SV.raw.injEq, SV.sl.injEq, Value.bool.injEq, Value.int.injEq, List.cons.injEq, Prod.mk.injEq, true_and, and_true, and_self]
    unfold rightF; rw [if_neg (by omega), if_pos hb]
end Go.Proofs.YtdpflafjfkooeaaG
namespace Go.Proofs.YtdpflafjfkooeaaG
open Go Go.RowKit Go.Proofs
set_option linter.unusedSimpArgs false
set_option linter.unusedVariables false
/-- What is known of edit.goes. -/
def GoesOk : Prop := ∀ (t : List Int) (l : List Ch) (back : Bool), t.length ≤ 100000 → (∀ c ∈ l, c.ok) → l.length ≤ 100000 →
  CallOk Try.prog 42 [sl (rn t), sln 3 (chs l), bo back] (bo (walkN (if back then l.map Ch.inv else l) l.length t)) [] true
structure Opn.ok (o : Opn) : Prop where
  len : o.text.length ≤ 100000
  run : R32s o.text
set_option maxRecDepth 10000 in
set_option maxHeartbeats 4000000 in
theorem right_ok (hg : GoesOk) (s : St) (hs : s.ok) : CallOk Try.prog 16 [s.x] (i64 (rightF s)) [] true := by
  have g1 : CallOk Try.prog 42 [sl (rn s.text), sln 3 (chs s.undo), bo true] (bo (walkN (s.undo.map Ch.inv) s.undo.length s.text)) [] true := hg s.text s.undo true hs.len hs.undo hs.ulen
  have g2 : CallOk Try.prog 42 [sl (rn s.text), sln 3 (chs s.redo), bo false] (bo (walkN s.redo s.redo.length s.text)) [] true := hg s.text s.redo false hs.len hs.redo hs.rlen
  obtain ⟨ht, hr, hu, hd, hul, hdl⟩ := hs
  refine fn_ok' T_ok (orc_ok _) mixed Try.func16 rfl (by kernel_rfl) (lv [[1], [1, 3], [2], [1, 24], [2], [29], [2], [2]]) 44 rfl (by simp) rfl (by simp [X.all, PX.all, TV.rawR, SV.isRaw]) ?_
  simp only [argsG, Nat.zero_add, Nat.reduceAdd, St.x]
  repeat' first
    | ((first
        | ((with_reducible refine vR_cons (by decide) ?_); generalize hk : KtR _ _ _ _ _ _ _ _ _ _ = k)
        | ((first
        | with_reducible refine vOps_cons' ?_
        | ((with_reducible apply orc_b); (focus (with_reducible exact scal_ok _ hr (by omega); done)); (all_goals (intro hb; (try simp only [decide_eq_true_eq, decide_eq_false_iff_not, Bool.not_eq_true', Bool.not_eq_false', Bool.and_eq_true, Decidable.not_not] at hb))))
        | ((with_reducible apply orc_b); (focus (with_reducible exact g1; done)); (all_goals (intro hb; (try simp only [decide_eq_true_eq, decide_eq_false_iff_not, Bool.not_eq_true', Bool.not_eq_false', Bool.and_eq_true, Decidable.not_not] at hb))))
        | ((with_reducible apply orc_b); (focus (with_reducible exact g2; done)); (all_goals (intro hb; (try simp only [decide_eq_true_eq, decide_eq_false_iff_not, Bool.not_eq_true', Bool.not_eq_false', Bool.and_eq_true, Decidable.not_not] at hb))))) <;> generalize hk : Kt _ _ _ _ _ _ _ _ _ = k)) <;> (simp only [Try.f16, lv, E1, E2, E5, ET, T, orc_mv, noO_mv, mvB, orc_bx, noO_bx, bxB, fwd, fwds, inv, mOk, Int.toNat_natCast, Nat.div_one, Nat.mul_one, Int.reduceToNat, SB, List.not_mem_nil, ↓reduceIte, ne_eq, reduceCtorEq, Nat.reduceLT, Nat.reduceEqDiff, Nat.reduceAdd, Nat.reduceMul, Nat.reduceLeDiff, Nat.reduceDiv, Nat.reduceMod, Nat.reduceSub, Nat.reduceBEq, rn_len, chs_len, chs_cnt, List.length_map, Ch.x, Ch.inv, Ch.rx, Ch.rr, Opn.x, St.x, cut_rn, take_drop_len, List.length_append, List.length_take, List.length_drop, ← rn_app, Int.sub_zero]; (try simp (disch := omega) only [wrap_in, Int.toNat_natCast, tv_rn, tv_ch0, tv_ch1, tv_ch2]); subst hk))
    | with_reducible first | refine Kt_p ?_ | refine Kt_i (by kernel_rfl) ?_ | refine Kr_f (by kernel_rfl) ?_
    | (with_reducible refine Kr_t ?_; simp only [List.length_append, List.length_cons, List.length_nil, Nat.reduceAdd, Nat.reduceSub, List.drop_succ_cons, List.drop_zero])
    | with_reducible first | refine vR_nil ?_ | refine KtR_i (by kernel_rfl) ?_ | refine KrR_i (by kernel_rfl) ?_ | refine vR_skip (by decide) ?_
    | ((with_reducible refine vB_i ?_ ?_) <;> intro _ <;> (first | (exfalso; omega) | (exact absurd trivial ‹¬True›) | (try dsimp only [])))
    | ((with_reducible refine vOps_nil' ?_); refine Kr_i (by kernel_rfl) ?_; generalize hk : plain _ _ = G; simp only [lv, E3, E2, E5, rawX, deadX, SB, List.not_mem_nil, ↓reduceIte, ne_eq, reduceCtorEq, Nat.reduceLT, Nat.reduceEqDiff, Nat.reduceAdd, Nat.reduceMul, Nat.reduceLeDiff, Nat.reduceDiv, Nat.reduceMod, Nat.reduceSub, Nat.reduceBEq, rn_len, chs_len, chs_cnt, List.length_map, Ch.x, Ch.inv, Ch.rx, Ch.rr, Opn.x, St.x, cut_rn, take_drop_len, List.length_append, List.length_take, List.length_drop, ← rn_app, Int.sub_zero] at hk; subst hk)
    | with_reducible refine vSeq_i ?_
    | with_reducible first | refine vRegion_i (by kernel_rfl) ?_ | refine Kv_i ?_
    | ((with_reducible apply vStrK_i); (focus (rfl; done)))
    | ((with_reducible refine imp_i ?_); intro _)
    | with_reducible first | refine Ks_n ?_ | refine Ks_r ?_ | refine Ks_e ?_ | refine Kl_e ?_ | refine Kx_n ?_ | refine Kl_r ?_ | refine vRet_i ?_ | refine vSkip_i ?_ | refine vExit_i ?_ | refine vBlock_i ?_ | refine Ks_p ?_ | refine Kl_p ?_ | refine blk_p ?_ | exact Kb_p | refine vGoto_i ?_ | refine vLabel_i ?_ | refine Ks_g ?_ | refine Kl_g ?_ | refine blk_g ?_ | refine jmp_g ?_ | refine jmp_n ?_ | refine jmp_r ?_ | refine nog_n ?_ | refine nog_r ?_ | refine blk_n ?_ | refine blk_r ?_ | refine blk_e ?_ | refine blk_o (by decide) ?_ | refine cp_t ?_ | refine cp_f ?_
    | ((with_reducible apply vCond_x); (focus (simp only [lv, E1, E2, E5, ET, T, orc_mv, noO_mv, mvB, orc_bx, noO_bx, bxB, fwd, fwds, inv, mOk, Int.toNat_natCast, Nat.div_one, Nat.mul_one, Int.reduceToNat, SB, List.not_mem_nil, ↓reduceIte, ne_eq, reduceCtorEq, Nat.reduceLT, Nat.reduceEqDiff, Nat.reduceAdd, Nat.reduceMul, Nat.reduceLeDiff, Nat.reduceDiv, Nat.reduceMod, Nat.reduceSub, Nat.reduceBEq, rn_len, chs_len, chs_cnt, List.length_map, Ch.x, Ch.inv, Ch.rx, Ch.rr, Opn.x, St.x, cut_rn, take_drop_len, List.length_append, List.length_take, List.length_drop, ← rn_app, Int.sub_zero]; with_reducible first | exact Eq.refl (bo true) | exact Eq.refl (bo false))))
    | ((with_reducible refine And.intro ?_ ?_); (focus (try omega)))
  all_goals
    refine Kf_r ?_
    simp only [Try.f16, E4, E3, E2, E5, rawX, deadX, ET, T, SB, List.not_mem_nil, ↓reduceIte, ne_eq, reduceCtorEq, Nat.reduceLT, Nat.reduceEqDiff, Nat.reduceAdd, Nat.reduceMul, Nat.reduceLeDiff, Nat.reduceDiv, Nat.reduceMod, Nat.reduceSub, Nat.reduceBEq, rn_len, chs_len, chs_cnt, List.length_map, Ch.x, Ch.inv, Ch.rx, Ch.rr, Opn.x, St.x, cut_rn, take_drop_len, List.length_append, List.length_take, List.length_drop, ← rn_app, Int.sub_zero, X.p.injEq, X.tup.injEq, PX.one.injEq, PX.agg.injEq, TV.v.injEq, TV.sr.injEq, SV.raw.injEq, SV.sl.injEq, Value.bool.injEq, Value.int.injEq, List.cons.injEq, Prod.mk.injEq, true_and, and_true, and_self]
    unfold rightF
    (repeat' split) <;> first | rfl | (exfalso; first | contradiction | omega | (simp_all; done))
end Go.Proofs.YtdpflafjfkooeaaG
namespace Go.Proofs.YtdpflafjfkooeaaG
open Go Go.RowKit Go.Proofs
set_option linter.unusedSimpArgs false
set_option linter.unusedVariables false
/-- What an operation does to the text, or why it does nothing. -/
def effF (s : St) (o : Opn) : Ch × Int :=
  if rightF s ≠ 0 then (noCh, rightF s) else if o.kind = 1 then insF s.text o else if o.kind = 2 then remF s.text o
  else if o.kind = 3 then (if (s.undo.length : Int) > 0 then ((s.undo.getD ((s.undo.length : Int) - 1).toNat noCh).inv, 0) else (noCh, 220))
  else if o.kind = 4 then (if (s.redo.length : Int) > 0 then (s.redo.getD ((s.redo.length : Int) - 1).toNat noCh, 0) else (noCh, 220)) else (noCh, 2)
set_option maxRecDepth 10000 in
set_option maxHeartbeats 4000000 in
theorem effect_ok (hg : GoesOk) (s : St) (o : Opn) (hs : s.ok) (ho : o.ok) : CallOk Try.prog 34 [s.x, o.x] ((effF s o).1.rx (effF s o).2) (effF s o).1.rr true := by
  have hr := right_ok hg s hs
  have hui : (s.undo.length : Int) > 0 → (s.undo.getD ((s.undo.length : Int) - 1).toNat noCh).ok := fun h => hs.undo _ (mem_getD (by omega))
  have hri : (s.redo.length : Int) > 0 → (s.redo.getD ((s.redo.length : Int) - 1).toNat noCh).ok := fun h => hs.redo _ (mem_getD (by omega))
  obtain ⟨ht, hrr, hu, hd, hul, hdl⟩ := hs
  obtain ⟨ho1, ho2⟩ := ho
  refine fn_ok' T_ok (orc_ok _) mixed Try.func34 rfl (by kernel_rfl) (lv [[2, 3, 4], [2, 3, 4, 6], [2, 3, 4, 6, 12], [4, 5], [2, 3, 4, 16], [2, 3, 4, 16, 17], [4, 5], [2, 3, 4, 16, 25], [4, 5], [2, 4, 16, 33], [2, 4, 7], [2, 4, 7, 39], [4, 5], [4, 5], [2, 4, 48], [2, 4, 8], [2, 4, 8, 54], [4, 5], [4, 5], [4, 5]]) 65 rfl (by simp) rfl (fun _ => ⟨rfl, Ch.rr_raw⟩) ?_
  rcases hI : effF s o with ⟨c, e⟩
  simp only [argsG, Nat.zero_add, Nat.reduceAdd, St.x, Opn.x]
  repeat' first
    | ((first
        | ((with_reducible refine vR_cons (by decide) ?_); generalize hk : KtR _ _ _ _ _ _ _ _ _ _ = k)
        | ((first
        | with_reducible refine vOps_cons' ?_
        | ((with_reducible apply orc_i); (focus (exact hr; done)))
        | ((with_reducible apply orc_i); (focus (exact insert_ok s.text o (by omega) (by omega) ho2; done)))
        | ((with_reducible apply orc_i); (focus (exact remove_ok s.text o (by omega); done)))
        | ((with_reducible apply orc_i); (focus (exact inverse_ok (s.undo.getD ((s.undo.length : Int) - 1).toNat noCh) (hui (by assumption)).small; done)))
        | ((with_reducible apply orc_i); (focus (exact inverse_ok (s.redo.getD ((s.redo.length : Int) - 1).toNat noCh) (hri (by assumption)).small; done)))
        | ((with_reducible apply orc_i); (focus (exact inverse_ok (s.redo.getD ((s.redo.length : Int) - 1).toNat noCh).inv (hri (by assumption)).inv.small; done)))) <;> generalize hk : Kt _ _ _ _ _ _ _ _ _ = k)) <;> (simp only [Try.f34, lv, E1, E2, E5, ET, T, orc_mv, noO_mv, mvB, orc_bx, noO_bx, bxB, fwd, fwds, inv, mOk, Int.toNat_natCast, Nat.div_one, Nat.mul_one, Int.reduceToNat, SB, List.not_mem_nil, ↓reduceIte, ne_eq, reduceCtorEq, Nat.reduceLT, Nat.reduceEqDiff, Nat.reduceAdd, Nat.reduceMul, Nat.reduceLeDiff, Nat.reduceDiv, Nat.reduceMod, Nat.reduceSub, Nat.reduceBEq, rn_len, chs_len, chs_cnt, List.length_map, Ch.x, Ch.inv, Ch.rx, Ch.rr, Opn.x, St.x, cut_rn, take_drop_len, List.length_append, List.length_take, List.length_drop, ← rn_app, Int.sub_zero]; (try simp (disch := omega) only [wrap_in, Int.toNat_natCast, tv_rn, tv_ch0, tv_ch1, tv_ch2]); subst hk))
    | with_reducible first | refine Kt_p ?_ | refine Kt_i (by kernel_rfl) ?_ | refine Kr_f (by kernel_rfl) ?_
    | (with_reducible refine Kr_t ?_; simp only [List.length_append, List.length_cons, List.length_nil, Nat.reduceAdd, Nat.reduceSub, List.drop_succ_cons, List.drop_zero])
    | with_reducible first | refine vR_nil ?_ | refine KtR_i (by kernel_rfl) ?_ | refine KrR_i (by kernel_rfl) ?_ | refine vR_skip (by decide) ?_
    | ((with_reducible refine vB_i ?_ ?_) <;> intro _ <;> (first | (exfalso; omega) | (exact absurd trivial ‹¬True›) | (try dsimp only [])))
    | ((with_reducible refine vOps_nil' ?_); refine Kr_i (by kernel_rfl) ?_; generalize hk : plain _ _ = G; simp only [lv, E3, E2, E5, rawX, deadX, SB, List.not_mem_nil, ↓reduceIte, ne_eq, reduceCtorEq, Nat.reduceLT, Nat.reduceEqDiff, Nat.reduceAdd, Nat.reduceMul, Nat.reduceLeDiff, Nat.reduceDiv, Nat.reduceMod, Nat.reduceSub, Nat.reduceBEq, rn_len, chs_len, chs_cnt, List.length_map, Ch.x, Ch.inv, Ch.rx, Ch.rr, Opn.x, St.x, cut_rn, take_drop_len, List.length_append, List.length_take, List.length_drop, ← rn_app, Int.sub_zero] at hk; subst hk)
    | with_reducible refine vSeq_i ?_
    | with_reducible first | refine vRegion_i (by kernel_rfl) ?_ | refine Kv_i ?_
    | ((with_reducible apply vStrK_i); (focus (rfl; done)))
    | ((with_reducible refine imp_i ?_); intro _)
    | with_reducible first | refine Ks_n ?_ | refine Ks_r ?_ | refine Ks_e ?_ | refine Kl_e ?_ | refine Kx_n ?_ | refine Kl_r ?_ | refine vRet_i ?_ | refine vSkip_i ?_ | refine vExit_i ?_ | refine vBlock_i ?_ | refine Ks_p ?_ | refine Kl_p ?_ | refine blk_p ?_ | exact Kb_p | refine vGoto_i ?_ | refine vLabel_i ?_ | refine Ks_g ?_ | refine Kl_g ?_ | refine blk_g ?_ | refine jmp_g ?_ | refine jmp_n ?_ | refine jmp_r ?_ | refine nog_n ?_ | refine nog_r ?_ | refine blk_n ?_ | refine blk_r ?_ | refine blk_e ?_ | refine blk_o (by decide) ?_ | refine cp_t ?_ | refine cp_f ?_
    | ((with_reducible apply vCond_x); (focus (simp only [lv, E1, E2, E5, ET, T, orc_mv, noO_mv, mvB, orc_bx, noO_bx, bxB, fwd, fwds, inv, mOk, Int.toNat_natCast, Nat.div_one, Nat.mul_one, Int.reduceToNat, SB, List.not_mem_nil, ↓reduceIte, ne_eq, reduceCtorEq, Nat.reduceLT, Nat.reduceEqDiff, Nat.reduceAdd, Nat.reduceMul, Nat.reduceLeDiff, Nat.reduceDiv, Nat.reduceMod, Nat.reduceSub, Nat.reduceBEq, rn_len, chs_len, chs_cnt, List.length_map, Ch.x, Ch.inv, Ch.rx, Ch.rr, Opn.x, St.x, cut_rn, take_drop_len, List.length_append, List.length_take, List.length_drop, ← rn_app, Int.sub_zero]; with_reducible first | exact Eq.refl (bo true) | exact Eq.refl (bo false))))
    | ((with_reducible refine And.intro ?_ ?_); (focus (try omega)))
  all_goals
    unfold effF at hI
    (repeat' split at hI)
    all_goals first
      | (exfalso; first | contradiction | omega)
      | (simp only [Prod.mk.injEq] at hI
         obtain ⟨rfl, rfl⟩ := hI
         refine Kf_r ?_
         simp only [Try.f34, E4, E3, E2, E5, rawX, deadX, ET, T, SB, List.not_mem_nil, ↓reduceIte, ne_eq, reduceCtorEq, Nat.reduceLT, Nat.reduceEqDiff, Nat.reduceAdd, Nat.reduceMul, Nat.reduceLeDiff, Nat.reduceDiv, Nat.reduceMod, Nat.reduceSub, Nat.reduceBEq, rn_len, chs_len, chs_cnt, List.length_map, Ch.x, Ch.inv, Ch.rx, Ch.rr, Opn.x, St.x, cut_rn, take_drop_len, List.length_append, List.length_take, List.length_drop, ← rn_app, Int.sub_zero, Ch.rx, Ch.rr, Ch.inv, noCh, rn_nil]
         done)
      | (refine Kf_r ?_
         simp only [Try.f34, E4, E3, E2, E5, rawX, deadX, ET, T, SB, List.not_mem_nil, ↓reduceIte, ne_eq, reduceCtorEq, Nat.reduceLT, Nat.reduceEqDiff, Nat.reduceAdd, Nat.reduceMul, Nat.reduceLeDiff, Nat.reduceDiv, Nat.reduceMod, Nat.reduceSub, Nat.reduceBEq, rn_len, chs_len, chs_cnt, List.length_map, Ch.x, Ch.inv, Ch.rx, Ch.rr, Opn.x, St.x, cut_rn, take_drop_len, List.length_append, List.length_take, List.length_drop, ← rn_app, Int.sub_zero, Ch.rx, Ch.rr, Ch.inv, hI]
         done)
      | (refine Kf_r ?_
         simp only [Try.f34, E4, E3, E2, E5, rawX, deadX, ET, T, SB, List.not_mem_nil, ↓reduceIte, ne_eq, reduceCtorEq, Nat.reduceLT, Nat.reduceEqDiff, Nat.reduceAdd, Nat.reduceMul, Nat.reduceLeDiff, Nat.reduceDiv, Nat.reduceMod, Nat.reduceSub, Nat.reduceBEq, rn_len, chs_len, chs_cnt, List.length_map, Ch.x, Ch.inv, Ch.rx, Ch.rr, Opn.x, St.x, cut_rn, take_drop_len, List.length_append, List.length_take, List.length_drop, ← rn_app, Int.sub_zero, Ch.rx, Ch.rr, Ch.inv, hI]
         trace_state)
end Go.Proofs.YtdpflafjfkooeaaG
namespace Go.Proofs.YtdpflafjfkooeaaG
open Go Go.RowKit Go.Proofs
set_option linter.unusedSimpArgs false
set_option linter.unusedVariables false
theorem right_zero {s : St} (h : rightF s = 0) : s.text.length ≤ 4096 ∧ s.undo.length + s.redo.length ≤ 16 ∧ scal s.text ∧ walkN (s.undo.map Ch.inv) s.undo.length s.text = true ∧ walkN s.redo s.redo.length s.text = true := by
  unfold rightF at h
  (repeat' split at h) <;> first | (exfalso; omega) | skip
  rename_i h1 h2 h3
  simp only [Bool.not_eq_false, Bool.and_eq_true] at h3
  exact ⟨by omega, by omega, Classical.not_not.1 h2, h3.1, h3.2⟩
theorem walk_head {l : List Ch} {t : List Int} (h : walkN l l.length t = true) (hl : 0 < l.length) : (l.getD (l.length - 1) noCh).good t ∧ ((l.getD (l.length - 1) noCh).done t).length ≤ 4096 ∧ walkN l (l.length - 1) ((l.getD (l.length - 1) noCh).done t) = true := by
  obtain ⟨m, hm⟩ : ∃ m, l.length = m + 1 := ⟨l.length - 1, by omega⟩
  rw [hm] at h ⊢
  simp only [walkN, Bool.and_eq_true, decide_eq_true_eq] at h
  exact ⟨h.1.1, h.1.2, h.2⟩
theorem eff_zero {s : St} {o : Opn} {c : Ch} (h : effF s o = (c, 0)) : rightF s = 0 := by
  unfold effF at h
  split at h
  · rename_i h1; simp only [Prod.mk.injEq] at h; exact absurd h.2 h1
  · rename_i h1; exact Classical.not_not.1 h1
theorem eff_good {s : St} {o : Opn} {c : Ch} (hs : s.ok) (ho : o.ok) (h : effF s o = (c, 0)) : c.good s.text ∧ c.ok ∧ (c.done s.text).length ≤ 4096 := by
  have hr := right_zero (eff_zero h)
  obtain ⟨r1, r2, r3, r4, r5⟩ := hr
  unfold effF at h
  rw [if_neg (by rw [eff_zero (c := c) (by unfold effF; exact h)]; exact fun h => h rfl)] at h
  have hsc : scal [] := fun i hi => by simp at hi
  split at h
  · unfold insF at h
    (repeat' split at h) <;> simp only [Prod.mk.injEq] at h <;> first | (exfalso; omega) | skip
    rename_i h1 h2 h3 h4
    obtain ⟨rfl, _⟩ := h
    have hf : Ch.fits ⟨o.at_, [], o.text⟩ s.text := ⟨by show 0 ≤ o.at_; omega, by show o.at_ ≤ s.text.length; omega, by simp; omega, by simp⟩
    refine ⟨⟨hsc, Classical.not_not.1 h2, hf⟩, ⟨by simp, ho.len, by intro x hx; simp at hx, ho.run⟩, ?_⟩
    rw [Ch.done_len hf]; simp; omega
  · split at h
    · unfold remF at h
      (repeat' split at h) <;> simp only [Prod.mk.injEq] at h <;> first | (exfalso; omega) | skip
      rename_i h1 h2
      obtain ⟨rfl, _⟩ := h
      have hl : ((s.text.drop o.at_.toNat).take (o.to_ - o.at_).toNat).length = (o.to_ - o.at_).toNat := by simp; omega
      have hf : Ch.fits ⟨o.at_, (s.text.drop o.at_.toNat).take (o.to_ - o.at_).toNat, []⟩ s.text := ⟨by show 0 ≤ o.at_; omega, by show o.at_ ≤ s.text.length; omega, by simp only [hl]; omega, by simp only [hl]⟩
      refine ⟨⟨fun i hi => ?_, hsc, hf⟩, ⟨by simp only [hl]; omega, by simp, (hs.run.drop _).take _, by intro x hx; simp at hx⟩, ?_⟩
      · simp only [hl] at hi
        have := r3 (o.at_.toNat + i) (by omega)
        simpa [List.getD, List.getElem?_take, List.getElem?_drop, hi] using this
      · rw [Ch.done_len hf]; simp only [List.length_nil]; omega
    · split at h
      · split at h
        · rename_i hl
          simp only [Prod.mk.injEq] at h
          obtain ⟨rfl, _⟩ := h
          have := walk_head (l := s.undo.map Ch.inv) (by simpa using r4) (by simp; omega)
          simp only [List.length_map, getD_inv] at this
          rw [show ((s.undo.length : Int) - 1).toNat = s.undo.length - 1 by omega]
          exact ⟨this.1, (hs.undo _ (mem_getD (by omega))).inv, this.2.1⟩
        · simp only [Prod.mk.injEq] at h; exfalso; omega
      · split at h
        · split at h
          · rename_i hl
            simp only [Prod.mk.injEq] at h
            obtain ⟨rfl, _⟩ := h
            have := walk_head r5 (by omega)
            rw [show ((s.redo.length : Int) - 1).toNat = s.redo.length - 1 by omega]
            exact ⟨this.1, hs.redo _ (mem_getD (by omega)), this.2.1⟩
          · simp only [Prod.mk.injEq] at h; exfalso; omega
        · simp only [Prod.mk.injEq] at h; exfalso; omega
/-- What an operation makes of a state. -/
def appF (s : St) (o : Opn) : St × Int :=
  if (effF s o).2 ≠ 0 then (⟨[], [], []⟩, (effF s o).2)
  else if o.kind = 3 then (⟨(effF s o).1.done s.text, s.undo.take (s.undo.length - 1), s.redo ++ [(effF s o).1.inv]⟩, 0)
  else if o.kind = 4 then (⟨(effF s o).1.done s.text, s.undo ++ [(effF s o).1], s.redo.take (s.redo.length - 1)⟩, 0)
  else (⟨(effF s o).1.done s.text, if s.undo.length + 1 > 16 then (s.undo ++ [(effF s o).1]).drop 1 else s.undo ++ [(effF s o).1], []⟩, 0)
theorem eff_undo {s : St} {o : Opn} {c : Ch} (h : effF s o = (c, 0)) (hk : o.kind = 3) : 0 < s.undo.length := by
  have h0 := eff_zero h
  unfold effF at h
  rw [if_neg (by rw [h0]; exact fun h => h rfl), if_neg (by omega), if_neg (by omega), if_pos hk] at h
  split at h
  · omega
  · simp only [Prod.mk.injEq] at h; exfalso; omega
theorem eff_redo {s : St} {o : Opn} {c : Ch} (h : effF s o = (c, 0)) (hk : o.kind = 4) : 0 < s.redo.length := by
  have h0 := eff_zero h
  unfold effF at h
  rw [if_neg (by rw [h0]; exact fun h => h rfl), if_neg (by omega), if_neg (by omega), if_neg (by omega), if_pos hk] at h
  split at h
  · omega
  · simp only [Prod.mk.injEq] at h; exfalso; omega
theorem chs_snoc (l : List Ch) (c : Ch) : chs (l ++ [c]) = chs l ++ [.raw (.int .i64 c.at_), .sl 1 (rn c.gone), .sl 1 (rn c.came)] := by rw [chs_app]; rfl
theorem cnt_snoc (l : List Ch) (a b d : SV) : cnt 3 (chs l ++ [a, b, d]) = l.length + 1 := by
  simp only [cnt, List.length_append, chs_len, List.length_cons, List.length_nil]; omega
theorem cut_snoc (l : List Ch) (a b d : SV) : cutSV 3 (chs l ++ [a, b, d]) 1 ((l.length + 1 : Nat) : Int) = (chs l ++ [a, b, d]).drop 3 := by
  simp only [cutSV]
  rw [show (1 : Int).toNat * 3 = 3 from rfl]
  refine List.take_of_length_le ?_
  simp only [List.length_drop, List.length_append, chs_len, List.length_cons, List.length_nil]; omega
theorem chs_nil : chs [] = [] := rfl
theorem chs_take (l : List Ch) (k : Nat) : chs (l.take k) = (chs l).take (k * 3) := by
  induction l generalizing k with
  | nil => simp [chs]
  | cons c l ih => cases k with
    | zero => simp [chs]
    | succ k => rw [List.take_succ_cons, chs_cons, chs_cons, ih, Nat.succ_mul]; rfl
theorem chs_drop (l : List Ch) (k : Nat) : chs (l.drop k) = (chs l).drop (k * 3) := by
  induction l generalizing k with
  | nil => simp [chs]
  | cons c l ih => cases k with
    | zero => simp [chs]
    | succ k => rw [List.drop_succ_cons, chs_cons, ih, Nat.succ_mul]; rfl
end Go.Proofs.YtdpflafjfkooeaaG
