/- YtncabdcaamkhiaaZTLawGBracketPairs: a part of the proof, joined of its texts. -/
import Derived.Test.YtncabdcaamkhiaaZ16
namespace Go.Proofs.YtncabdcaamkhiaaG
open Go Go.RowKit Go.Proofs
set_option linter.unusedSimpArgs false
set_option linter.unusedVariables false
theorem rn_cnt10 (l : List Int) : cnt 1 (rn l) = l.length := by unfold cnt; rw [rn_len]; omega
/-- Both Pairs, whatever the lengths. -/
theorem pairs_both (l t : List Int) (hl : l.length ≤ 2000000) (ht : t.length ≤ 2000000) : ∃ (P : List (Int × Int)) (er : Int), P.length ≤ 2000000 ∧
    CallOk Try.prog 10 [sl (rn l), sl (nts t)] (.tup [.one (.sr 0), .one (.v (.raw (.int .i64 er)))]) [(42, 2, prs P)] true ∧
    CallOk Try.prog 11 [sl (rn l), sl (nts t)] (.tup [.one (.sr 0), .one (.v (.raw (.int .i64 er)))]) [(42, 2, prs P)] true := by
  by_cases h : t.length = l.length
  · exact ⟨prsF l t, 0, Nat.le_trans (prsF_len l t) hl, pairs_ok l t h hl, refPairs_ok l t h hl⟩
  · exact ⟨[], 2, by decide, pairs_bad l t h hl ht, refPairs_bad l t h hl ht⟩
set_option maxRecDepth 10000 in
set_option maxHeartbeats 4000000 in
theorem bracketPairs_law (l t : List Int) (hl : l.length ≤ 2000000) (ht : t.length ≤ 2000000) : CallOk Try.prog 3 [sl (rn l), sl (nts t)] (bo true) [] true := by
  obtain ⟨P, er, hP, q1, q2⟩ := pairs_both l t hl ht
  have q3 := samePairs_ok P P hP hP
  rw [decide_eq_true rfl] at q3
  have q4 := same_ok l l hl hl
  rw [decide_eq_true rfl] at q4
  have q5 := ints_ok t t ht ht
  rw [decide_eq_true rfl] at q5
  have q6 := works_ok
  refine fn_ok' T_ok (orc_ok _) mixed Try.func3 rfl (by kernel_rfl) (lv [[0, 1], [0, 1, 13], [4], [0, 1, 5, 6], [0, 1, 5, 6, 7, 8], [0, 1, 5, 6, 7, 8, 9, 10], [4]]) 56 rfl (by simp) rfl (by simp [X.all, PX.all, TV.rawR, SV.isRaw]) ?_
  simp only [argsG, Nat.zero_add, Nat.reduceAdd]
  repeat' first
    | ((first
        | ((with_reducible refine vR_cons (by decide) ?_); generalize hk : KtR _ _ _ _ _ _ _ _ _ _ = k)
        | ((first
        | with_reducible refine vOps_cons' ?_
        | ((with_reducible apply orc_i); (focus (exact q1; done)))
        | ((with_reducible apply orc_i); (focus (exact q2; done)))
        | ((with_reducible apply orc_i); (focus (exact q3; done)))
        | ((with_reducible apply orc_i); (focus (exact q4; done)))
        | ((with_reducible apply orc_i); (focus (exact q5; done)))
        | ((with_reducible apply orc_i); (focus (exact q6; done)))) <;> generalize hk : Kt _ _ _ _ _ _ _ _ _ = k)) <;> (simp only [Try.f3, lv, E1, E2, E5, ET, T, orc_mv, noO_mv, mvB, orc_bx, noO_bx, bxB, orc_sx, noO_sx, sxB, fwd, fwds, inv, mOk, Int.toNat_natCast, Nat.div_one, Nat.mul_one, Int.reduceToNat, SB, List.not_mem_nil, ↓reduceIte, ne_eq, reduceCtorEq, Nat.reduceLT, Nat.reduceEqDiff, Nat.reduceAdd, Nat.reduceMul, Nat.reduceLeDiff, Nat.reduceDiv, Nat.reduceMod, Nat.reduceSub, Nat.reduceBEq, List.length_map, rn_len, nts_len, prs_len, prs_cnt, nts_cnt, rn_cnt10, cnt_two, List.length_set]; (try simp (disch := omega) only [wrap_in, Int.toNat_natCast, tv_rn, tv_nts, tv_prs0, tv_prs1]); subst hk))
    | with_reducible first | refine Kt_p ?_ | refine Kt_i (by kernel_rfl) ?_ | refine Kr_f (by kernel_rfl) ?_
    | (with_reducible refine Kr_t ?_; simp only [List.length_append, List.length_cons, List.length_nil, Nat.reduceAdd, Nat.reduceSub, List.drop_succ_cons, List.drop_zero])
    | with_reducible first | refine vR_nil ?_ | refine KtR_i (by kernel_rfl) ?_ | refine KrR_i (by kernel_rfl) ?_ | refine vR_skip (by decide) ?_
    | ((with_reducible refine vB_i ?_ ?_) <;> intro _ <;> (first | (exfalso; omega) | (exact absurd trivial ‹¬True›) | (try dsimp only [])))
    | ((with_reducible refine vOps_nil' ?_); refine Kr_i (by kernel_rfl) ?_; generalize hk : plain _ _ = G; simp only [lv, E3, E2, E5, rawX, deadX, SB, List.not_mem_nil, ↓reduceIte, ne_eq, reduceCtorEq, Nat.reduceLT, Nat.reduceEqDiff, Nat.reduceAdd, Nat.reduceMul, Nat.reduceLeDiff, Nat.reduceDiv, Nat.reduceMod, Nat.reduceSub, Nat.reduceBEq, List.length_map, rn_len, nts_len, prs_len, prs_cnt, nts_cnt, rn_cnt10, cnt_two, List.length_set] at hk; subst hk)
    | with_reducible refine vSeq_i ?_
    | with_reducible first | refine vRegion_i (by kernel_rfl) ?_ | refine Kv_i ?_
    | ((with_reducible apply vStrK_i); (focus (rfl; done)))
    | ((with_reducible refine imp_i ?_); intro _)
    | with_reducible first | refine Ks_n ?_ | refine Ks_r ?_ | refine Ks_e ?_ | refine Kl_e ?_ | refine Kx_n ?_ | refine Kl_r ?_ | refine vRet_i ?_ | refine vSkip_i ?_ | refine vExit_i ?_ | refine vBlock_i ?_ | refine Ks_p ?_ | refine Kl_p ?_ | refine blk_p ?_ | exact Kb_p | refine vGoto_i ?_ | refine vLabel_i ?_ | refine Ks_g ?_ | refine Kl_g ?_ | refine blk_g ?_ | refine jmp_g ?_ | refine jmp_n ?_ | refine jmp_r ?_ | refine nog_n ?_ | refine nog_r ?_ | refine blk_n ?_ | refine blk_r ?_ | refine blk_e ?_ | refine blk_o (by decide) ?_ | refine cp_t ?_ | refine cp_f ?_
    | ((with_reducible apply vCond_x); (focus (simp only [lv, E1, E2, E5, ET, T, orc_mv, noO_mv, mvB, orc_bx, noO_bx, bxB, orc_sx, noO_sx, sxB, fwd, fwds, inv, mOk, Int.toNat_natCast, Nat.div_one, Nat.mul_one, Int.reduceToNat, SB, List.not_mem_nil, ↓reduceIte, ne_eq, reduceCtorEq, Nat.reduceLT, Nat.reduceEqDiff, Nat.reduceAdd, Nat.reduceMul, Nat.reduceLeDiff, Nat.reduceDiv, Nat.reduceMod, Nat.reduceSub, Nat.reduceBEq, List.length_map, rn_len, nts_len, prs_len, prs_cnt, nts_cnt, rn_cnt10, cnt_two, List.length_set]; with_reducible first | exact Eq.refl (bo true) | exact Eq.refl (bo false))))
    | ((with_reducible refine And.intro ?_ ?_); (focus (try omega)))
  all_goals try (exfalso; omega)
  all_goals refine Kf_r ?_
  all_goals simp only [Try.f3, E4, E3, E2, E5, rawX, deadX, ET, T, SB, List.not_mem_nil, ↓reduceIte, ne_eq, reduceCtorEq, Nat.reduceLT, Nat.reduceEqDiff, Nat.reduceAdd, Nat.reduceMul, Nat.reduceLeDiff, Nat.reduceDiv, Nat.reduceMod, Nat.reduceSub, Nat.reduceBEq, List.length_map, rn_len, nts_len, prs_len, prs_cnt, nts_cnt, rn_cnt10, cnt_two, List.length_set, X.p.injEq, X.tup.injEq, PX.one.injEq, PX.agg.injEq, TV.v.injEq, TV.sr.injEq, SV.raw.injEq, SV.sl.injEq, Value.bool.injEq, Value.int.injEq, List.cons.injEq, Prod.mk.injEq, true_and, and_true, and_self]
end Go.Proofs.YtncabdcaamkhiaaG
/- L10: layer 10's laws at what came in: texts of numbers, lists of numbers. -/
namespace Go.Proofs.YtncabdcaamkhiaaG
open Go Go.RowKit Go.Proofs Go.Proofs.Ytncabdcaamkhiaa
set_option linter.unusedVariables false
set_option linter.unusedSimpArgs false
theorem typ_rn10 {n : Nat} {x : SV} (h : Typ T n 22 [x]) : ∃ l : List Int, x = .sl 1 (rn l) ∧ l.length ≤ n := by
  obtain ⟨l, e, _, h2⟩ := h.ints (by rfl) (by rfl)
  simp only [List.cons.injEq, and_true] at e
  exact ⟨l, e, h2⟩
theorem typ_nt10 {n : Nat} {x : SV} (h : Typ T n 23 [x]) : ∃ l : List Int, x = .sl 1 (nts l) ∧ l.length ≤ n := by
  obtain ⟨l, e, _, h2⟩ := h.ints (by rfl) (by rfl)
  simp only [List.cons.injEq, and_true] at e
  exact ⟨l, e, h2⟩
theorem bracketPairs_in {W : World} {v0 v1 : Value} {x0 x1 : SV} (t0 : Typ T 1048576 22 [x0]) (a0 : XR W (gI W) v0 (.p (.one (.v x0)))) (t1 : Typ T 1048576 23 [x1]) (a1 : XR W (gI W) v1 (.p (.one (.v x1)))) :
    Calls Try.prog 3 #[v0, v1] W fun e W' => e = .returned (.bool true) ∧ Below W.heap.size W W' := by
  obtain ⟨l, rfl, hl⟩ := typ_rn10 t0
  obtain ⟨t, rfl, ht⟩ := typ_nt10 t1
  exact law_calls (bracketPairs_law l t (by omega) (by omega)) (.cons a0 (.cons a1 .nil))
end Go.Proofs.YtncabdcaamkhiaaG
