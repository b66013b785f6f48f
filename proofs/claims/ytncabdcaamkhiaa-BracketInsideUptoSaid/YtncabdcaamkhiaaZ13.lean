/- YtncabdcaamkhiaaZ13: a part of the proof, joined of its texts. -/
import Derived.Test.YtncabdcaamkhiaaZ12
namespace Go.Proofs.YtncabdcaamkhiaaG
open Go Go.RowKit Go.Proofs
set_option linter.unusedSimpArgs false
set_option linter.unusedVariables false
theorem cut_nts (l : List Int) (a b : Int) : cutSV 1 (nts l) a b = nts ((l.drop a.toNat).take (b - a).toNat) := by simp [cutSV, nts, List.map_drop, List.map_take]
theorem sd_rng (x : Int) : sdF x = 0 ∨ sdF x = 1 ∨ sdF x = 2 := by unfold sdF; (repeat' split) <;> simp
def formedF (t : List Int) : Bool := decide (∀ i, i < t.length → mayF (t.getD i 0) = true)
theorem may_iff (x : Int) : mayF x = true ↔ sdF x ≠ 0 ∨ (11 ≤ x ∧ x ≤ 14) ∨ (20 ≤ x ∧ x ≤ 23) := by unfold mayF; simp only [decide_eq_true_eq]
set_option maxRecDepth 10000 in
set_option maxHeartbeats 4000000 in
theorem formed_ok (t : List Int) (hl : t.length ≤ 2000000) : CallOk Try.prog 24 [sl (nts t)] (bo (formedF t)) [] true := by
  refine fn_ok' T_ok (orc_ok _) mixed Try.func24 rfl (by kernel_rfl) (lv [[0], [5, 6, 7], [5, 6, 7, 8], [4, 5, 6, 7], [5, 6, 7, 29], [2], [5, 6, 7], [2]]) 31 rfl (by simp) rfl (by simp [X.all, PX.all, TV.rawR, SV.isRaw]) ?_
  simp only [argsG, Nat.zero_add, Nat.reduceAdd]
  repeat' first
    | ((first
        | ((with_reducible refine vR_cons (by decide) ?_); generalize hk : KtR _ _ _ _ _ _ _ _ _ _ = k)
        | ((first
        | with_reducible refine vOps_cons' ?_) <;> generalize hk : Kt _ _ _ _ _ _ _ _ _ = k)) <;> (simp only [Try.f24, lv, E1, E2, E5, ET, T, orc_mv, noO_mv, mvB, orc_bx, noO_bx, bxB, orc_sx, noO_sx, sxB, fwd, fwds, inv, mOk, Int.toNat_natCast, Nat.div_one, Nat.mul_one, Int.reduceToNat, SB, List.not_mem_nil, ↓reduceIte, ne_eq, reduceCtorEq, Nat.reduceLT, Nat.reduceEqDiff, Nat.reduceAdd, Nat.reduceMul, Nat.reduceLeDiff, Nat.reduceDiv, Nat.reduceMod, Nat.reduceSub, Nat.reduceBEq, List.length_map, rn_len, nts_len, cut_nts, List.length_take, List.length_drop]; (try simp (disch := omega) only [wrap_in, Int.toNat_natCast, tv_rn, tv_nts]); subst hk))
    | with_reducible first | refine Kt_p ?_ | refine Kt_i (by kernel_rfl) ?_ | refine Kr_f (by kernel_rfl) ?_
    | (with_reducible refine Kr_t ?_; simp only [List.length_append, List.length_cons, List.length_nil, Nat.reduceAdd, Nat.reduceSub, List.drop_succ_cons, List.drop_zero])
    | with_reducible first | refine vR_nil ?_ | refine KtR_i (by kernel_rfl) ?_ | refine KrR_i (by kernel_rfl) ?_ | refine vR_skip (by decide) ?_
    | ((with_reducible refine vB_i ?_ ?_) <;> intro _ <;> (first | (exfalso; omega) | (exact absurd trivial ‹¬True›) | (try dsimp only [])))
    | ((with_reducible refine vOps_nil' ?_); refine Kr_i (by kernel_rfl) ?_; generalize hk : plain _ _ = G; simp only [lv, E3, E2, E5, rawX, deadX, SB, List.not_mem_nil, ↓reduceIte, ne_eq, reduceCtorEq, Nat.reduceLT, Nat.reduceEqDiff, Nat.reduceAdd, Nat.reduceMul, Nat.reduceLeDiff, Nat.reduceDiv, Nat.reduceMod, Nat.reduceSub, Nat.reduceBEq, List.length_map, rn_len, nts_len, cut_nts, List.length_take, List.length_drop] at hk; subst hk)
    | with_reducible refine vSeq_i ?_
    | with_reducible first | refine vRegion_i (by kernel_rfl) ?_ | refine Kv_i ?_
    | ((with_reducible apply vStrK_i); (focus (rfl; done)))
    | ((with_reducible refine imp_i ?_); intro _)
    | with_reducible first | refine Ks_n ?_ | refine Ks_r ?_ | refine Ks_e ?_ | refine Kl_e ?_ | refine Kx_n ?_ | refine Kl_r ?_ | refine vRet_i ?_ | refine vSkip_i ?_ | refine vExit_i ?_ | refine vBlock_i ?_ | refine Ks_p ?_ | refine Kl_p ?_ | refine blk_p ?_ | exact Kb_p | refine vGoto_i ?_ | refine vLabel_i ?_ | refine Ks_g ?_ | refine Kl_g ?_ | refine blk_g ?_ | refine jmp_g ?_ | refine jmp_n ?_ | refine jmp_r ?_ | refine nog_n ?_ | refine nog_r ?_ | refine blk_n ?_ | refine blk_r ?_ | refine blk_e ?_ | refine blk_o (by decide) ?_ | refine cp_t ?_ | refine cp_f ?_
    | ((with_reducible apply vCond_x); (focus (simp only [lv, E1, E2, E5, ET, T, orc_mv, noO_mv, mvB, orc_bx, noO_bx, bxB, orc_sx, noO_sx, sxB, fwd, fwds, inv, mOk, Int.toNat_natCast, Nat.div_one, Nat.mul_one, Int.reduceToNat, SB, List.not_mem_nil, ↓reduceIte, ne_eq, reduceCtorEq, Nat.reduceLT, Nat.reduceEqDiff, Nat.reduceAdd, Nat.reduceMul, Nat.reduceLeDiff, Nat.reduceDiv, Nat.reduceMod, Nat.reduceSub, Nat.reduceBEq, List.length_map, rn_len, nts_len, cut_nts, List.length_take, List.length_drop]; with_reducible first | exact Eq.refl (bo true) | exact Eq.refl (bo false))))
    | ((with_reducible refine And.intro ?_ ?_); (focus (try omega)))
  refine vLoop_s (fun k : Nat => [(.t 5, .t (sl (nts t))), (.t 6, .t (i64 t.length)), (.t 7, .t (i64 k))]) (fun k => k ≤ t.length ∧ ∀ i, i < k → mayF (t.getD i 0) = true) (fun k => t.length - k) 0 ⟨by omega, by omega⟩ rfl ?_
  rintro k ⟨hk, hlt⟩
  have hm := may_iff (t.getD k 0)
  repeat' first
    | ((first
        | ((with_reducible refine vR_cons (by decide) ?_); generalize hk : KtR _ _ _ _ _ _ _ _ _ _ = k)
        | ((first
        | with_reducible refine vOps_cons' ?_
        | ((with_reducible apply orc_i); (focus (exact side_ok _; done)))) <;> generalize hk : Kt _ _ _ _ _ _ _ _ _ = k)) <;> (simp only [Try.f24, lv, E1, E2, E5, ET, T, orc_mv, noO_mv, mvB, orc_bx, noO_bx, bxB, orc_sx, noO_sx, sxB, fwd, fwds, inv, mOk, Int.toNat_natCast, Nat.div_one, Nat.mul_one, Int.reduceToNat, SB, List.not_mem_nil, ↓reduceIte, ne_eq, reduceCtorEq, Nat.reduceLT, Nat.reduceEqDiff, Nat.reduceAdd, Nat.reduceMul, Nat.reduceLeDiff, Nat.reduceDiv, Nat.reduceMod, Nat.reduceSub, Nat.reduceBEq, List.length_map, rn_len, nts_len, cut_nts, List.length_take, List.length_drop]; (try simp (disch := omega) only [wrap_in, Int.toNat_natCast, tv_rn, tv_nts]); subst hk))
    | with_reducible first | refine Kt_p ?_ | refine Kt_i (by kernel_rfl) ?_ | refine Kr_f (by kernel_rfl) ?_
    | (with_reducible refine Kr_t ?_; simp only [List.length_append, List.length_cons, List.length_nil, Nat.reduceAdd, Nat.reduceSub, List.drop_succ_cons, List.drop_zero])
    | with_reducible first | refine vR_nil ?_ | refine KtR_i (by kernel_rfl) ?_ | refine KrR_i (by kernel_rfl) ?_ | refine vR_skip (by decide) ?_
    | ((with_reducible refine vB_i ?_ ?_) <;> intro _ <;> (first | (exfalso; omega) | (exact absurd trivial ‹¬True›) | (try dsimp only [])))
    | ((with_reducible refine vOps_nil' ?_); refine Kr_i (by kernel_rfl) ?_; generalize hk : plain _ _ = G; simp only [lv, E3, E2, E5, rawX, deadX, SB, List.not_mem_nil, ↓reduceIte, ne_eq, reduceCtorEq, Nat.reduceLT, Nat.reduceEqDiff, Nat.reduceAdd, Nat.reduceMul, Nat.reduceLeDiff, Nat.reduceDiv, Nat.reduceMod, Nat.reduceSub, Nat.reduceBEq, List.length_map, rn_len, nts_len, cut_nts, List.length_take, List.length_drop] at hk; subst hk)
    | with_reducible refine vSeq_i ?_
    | with_reducible first | refine vRegion_i (by kernel_rfl) ?_ | refine Kv_i ?_
    | ((with_reducible apply vStrK_i); (focus (rfl; done)))
    | ((with_reducible refine imp_i ?_); intro _)
    | with_reducible first | refine Ks_n ?_ | refine Ks_r ?_ | refine Ks_e ?_ | refine Kl_e ?_ | refine Kx_n ?_ | refine Kl_r ?_ | refine vRet_i ?_ | refine vSkip_i ?_ | refine vExit_i ?_ | refine vBlock_i ?_ | refine Ks_p ?_ | refine Kl_p ?_ | refine blk_p ?_ | exact Kb_p | refine vGoto_i ?_ | refine vLabel_i ?_ | refine Ks_g ?_ | refine Kl_g ?_ | refine blk_g ?_ | refine jmp_g ?_ | refine jmp_n ?_ | refine jmp_r ?_ | refine nog_n ?_ | refine nog_r ?_ | refine blk_n ?_ | refine blk_r ?_ | refine blk_e ?_ | refine blk_o (by decide) ?_ | refine cp_t ?_ | refine cp_f ?_
    | ((with_reducible apply vCond_x); (focus (simp only [lv, E1, E2, E5, ET, T, orc_mv, noO_mv, mvB, orc_bx, noO_bx, bxB, orc_sx, noO_sx, sxB, fwd, fwds, inv, mOk, Int.toNat_natCast, Nat.div_one, Nat.mul_one, Int.reduceToNat, SB, List.not_mem_nil, ↓reduceIte, ne_eq, reduceCtorEq, Nat.reduceLT, Nat.reduceEqDiff, Nat.reduceAdd, Nat.reduceMul, Nat.reduceLeDiff, Nat.reduceDiv, Nat.reduceMod, Nat.reduceSub, Nat.reduceBEq, List.length_map, rn_len, nts_len, cut_nts, List.length_take, List.length_drop]; with_reducible first | exact Eq.refl (bo true) | exact Eq.refl (bo false))))
    | ((with_reducible refine And.intro ?_ ?_); (focus (try omega)))
  all_goals first
    | (have hx : mayF (t.getD k 0) = true := hm.2 (by omega)
       exact Kl_n ⟨k + 1, ⟨by omega, fun i hi => by rcases Nat.lt_or_eq_of_le (Nat.le_of_lt_succ hi) with q | q; exact hlt i q; exact q ▸ hx⟩, by omega, by simp only [Int.natCast_add, Int.natCast_one]⟩)
    | (have hx : ¬ mayF (t.getD k 0) = true := fun q => by have := hm.1 q; omega
       refine Kf_r ?_
       simp only [Try.f24, E4, E3, E2, E5, rawX, deadX, ET, T, SB, List.not_mem_nil, ↓reduceIte, ne_eq, reduceCtorEq, Nat.reduceLT, Nat.reduceEqDiff, Nat.reduceAdd, Nat.reduceMul, Nat.reduceLeDiff, Nat.reduceDiv, Nat.reduceMod, Nat.reduceSub, Nat.reduceBEq, List.length_map, rn_len, nts_len, cut_nts, List.length_take, List.length_drop, X.p.injEq, X.tup.injEq, PX.one.injEq, PX.agg.injEq, TV.v.injEq, TV.sr.injEq, SV.raw.injEq, SV.sl.injEq, Value.bool.injEq, Value.int.injEq, List.cons.injEq, Prod.mk.injEq, true_and, and_true, and_self]
       symm; unfold formedF; simp only [decide_eq_false_iff_not]
       exact fun q => hx (q k (by omega)))
    | (refine Kf_r ?_
       simp only [Try.f24, E4, E3, E2, E5, rawX, deadX, ET, T, SB, List.not_mem_nil, ↓reduceIte, ne_eq, reduceCtorEq, Nat.reduceLT, Nat.reduceEqDiff, Nat.reduceAdd, Nat.reduceMul, Nat.reduceLeDiff, Nat.reduceDiv, Nat.reduceMod, Nat.reduceSub, Nat.reduceBEq, List.length_map, rn_len, nts_len, cut_nts, List.length_take, List.length_drop, X.p.injEq, X.tup.injEq, PX.one.injEq, PX.agg.injEq, TV.v.injEq, TV.sr.injEq, SV.raw.injEq, SV.sl.injEq, Value.bool.injEq, Value.int.injEq, List.cons.injEq, Prod.mk.injEq, true_and, and_true, and_self]
       symm; unfold formedF; simp only [decide_eq_true_eq]
       exact fun i hi => hlt i (by omega))
def hasF (t : List Int) (e : Int) : Bool := decide (∃ i, i < t.length ∧ sdF (t.getD i 0) = e)
set_option maxRecDepth 10000 in
set_option maxHeartbeats 4000000 in
theorem has_ok (t : List Int) (e : Int) (hl : t.length ≤ 2000000) : CallOk Try.prog 36 [sl (nts t), i64 e] (bo (hasF t e)) [] true := by
  refine fn_ok' T_ok (orc_ok _) mixed Try.func36 rfl (by kernel_rfl) (lv [[0, 1], [0, 1, 5], [0, 1, 5, 9], [0, 1, 5], [0, 1, 5, 18], [4], [4]]) 19 rfl (by simp) rfl (by simp [X.all, PX.all, TV.rawR, SV.isRaw]) ?_
  simp only [argsG, Nat.zero_add, Nat.reduceAdd]
  repeat' first
    | ((first
        | ((with_reducible refine vR_cons (by decide) ?_); generalize hk : KtR _ _ _ _ _ _ _ _ _ _ = k)
        | ((first
        | with_reducible refine vOps_cons' ?_) <;> generalize hk : Kt _ _ _ _ _ _ _ _ _ = k)) <;> (simp only [Try.f36, lv, E1, E2, E5, ET, T, orc_mv, noO_mv, mvB, orc_bx, noO_bx, bxB, orc_sx, noO_sx, sxB, fwd, fwds, inv, mOk, Int.toNat_natCast, Nat.div_one, Nat.mul_one, Int.reduceToNat, SB, List.not_mem_nil, ↓reduceIte, ne_eq, reduceCtorEq, Nat.reduceLT, Nat.reduceEqDiff, Nat.reduceAdd, Nat.reduceMul, Nat.reduceLeDiff, Nat.reduceDiv, Nat.reduceMod, Nat.reduceSub, Nat.reduceBEq, List.length_map, rn_len, nts_len, cut_nts, List.length_take, List.length_drop]; (try simp (disch := omega) only [wrap_in, Int.toNat_natCast, tv_rn, tv_nts]); subst hk))
    | with_reducible first | refine Kt_p ?_ | refine Kt_i (by kernel_rfl) ?_ | refine Kr_f (by kernel_rfl) ?_
    | (with_reducible refine Kr_t ?_; simp only [List.length_append, List.length_cons, List.length_nil, Nat.reduceAdd, Nat.reduceSub, List.drop_succ_cons, List.drop_zero])
    | with_reducible first | refine vR_nil ?_ | refine KtR_i (by kernel_rfl) ?_ | refine KrR_i (by kernel_rfl) ?_ | refine vR_skip (by decide) ?_
    | ((with_reducible refine vB_i ?_ ?_) <;> intro _ <;> (first | (exfalso; omega) | (exact absurd trivial ‹¬True›) | (try dsimp only [])))
    | ((with_reducible refine vOps_nil' ?_); refine Kr_i (by kernel_rfl) ?_; generalize hk : plain _ _ = G; simp only [lv, E3, E2, E5, rawX, deadX, SB, List.not_mem_nil, ↓reduceIte, ne_eq, reduceCtorEq, Nat.reduceLT, Nat.reduceEqDiff, Nat.reduceAdd, Nat.reduceMul, Nat.reduceLeDiff, Nat.reduceDiv, Nat.reduceMod, Nat.reduceSub, Nat.reduceBEq, List.length_map, rn_len, nts_len, cut_nts, List.length_take, List.length_drop] at hk; subst hk)
    | with_reducible refine vSeq_i ?_
    | with_reducible first | refine vRegion_i (by kernel_rfl) ?_ | refine Kv_i ?_
    | ((with_reducible apply vStrK_i); (focus (rfl; done)))
    | ((with_reducible refine imp_i ?_); intro _)
    | with_reducible first | refine Ks_n ?_ | refine Ks_r ?_ | refine Ks_e ?_ | refine Kl_e ?_ | refine Kx_n ?_ | refine Kl_r ?_ | refine vRet_i ?_ | refine vSkip_i ?_ | refine vExit_i ?_ | refine vBlock_i ?_ | refine Ks_p ?_ | refine Kl_p ?_ | refine blk_p ?_ | exact Kb_p | refine vGoto_i ?_ | refine vLabel_i ?_ | refine Ks_g ?_ | refine Kl_g ?_ | refine blk_g ?_ | refine jmp_g ?_ | refine jmp_n ?_ | refine jmp_r ?_ | refine nog_n ?_ | refine nog_r ?_ | refine blk_n ?_ | refine blk_r ?_ | refine blk_e ?_ | refine blk_o (by decide) ?_ | refine cp_t ?_ | refine cp_f ?_
    | ((with_reducible apply vCond_x); (focus (simp only [lv, E1, E2, E5, ET, T, orc_mv, noO_mv, mvB, orc_bx, noO_bx, bxB, orc_sx, noO_sx, sxB, fwd, fwds, inv, mOk, Int.toNat_natCast, Nat.div_one, Nat.mul_one, Int.reduceToNat, SB, List.not_mem_nil, ↓reduceIte, ne_eq, reduceCtorEq, Nat.reduceLT, Nat.reduceEqDiff, Nat.reduceAdd, Nat.reduceMul, Nat.reduceLeDiff, Nat.reduceDiv, Nat.reduceMod, Nat.reduceSub, Nat.reduceBEq, List.length_map, rn_len, nts_len, cut_nts, List.length_take, List.length_drop]; with_reducible first | exact Eq.refl (bo true) | exact Eq.refl (bo false))))
    | ((with_reducible refine And.intro ?_ ?_); (focus (try omega)))
  refine vLoop_s (fun k : Nat => [(.t 0, .t (sl (nts t))), (.t 1, .t (i64 e)), (.t 5, .t (i64 k))]) (fun k => k ≤ t.length ∧ ∀ i, i < k → sdF (t.getD i 0) ≠ e) (fun k => t.length - k) 0 ⟨by omega, by omega⟩ rfl ?_
  rintro k ⟨hk, hlt⟩
  repeat' first
    | ((first
        | ((with_reducible refine vR_cons (by decide) ?_); generalize hk : KtR _ _ _ _ _ _ _ _ _ _ = k)
        | ((first
        | with_reducible refine vOps_cons' ?_
        | ((with_reducible apply orc_i); (focus (exact side1_ok _; done)))) <;> generalize hk : Kt _ _ _ _ _ _ _ _ _ = k)) <;> (simp only [Try.f36, lv, E1, E2, E5, ET, T, orc_mv, noO_mv, mvB, orc_bx, noO_bx, bxB, orc_sx, noO_sx, sxB, fwd, fwds, inv, mOk, Int.toNat_natCast, Nat.div_one, Nat.mul_one, Int.reduceToNat, SB, List.not_mem_nil, ↓reduceIte, ne_eq, reduceCtorEq, Nat.reduceLT, Nat.reduceEqDiff, Nat.reduceAdd, Nat.reduceMul, Nat.reduceLeDiff, Nat.reduceDiv, Nat.reduceMod, Nat.reduceSub, Nat.reduceBEq, List.length_map, rn_len, nts_len, cut_nts, List.length_take, List.length_drop]; (try simp (disch := omega) only [wrap_in, Int.toNat_natCast, tv_rn, tv_nts]); subst hk))
    | with_reducible first | refine Kt_p ?_ | refine Kt_i (by kernel_rfl) ?_ | refine Kr_f (by kernel_rfl) ?_
    | (with_reducible refine Kr_t ?_; simp only [List.length_append, List.length_cons, List.length_nil, Nat.reduceAdd, Nat.reduceSub, List.drop_succ_cons, List.drop_zero])
    | with_reducible first | refine vR_nil ?_ | refine KtR_i (by kernel_rfl) ?_ | refine KrR_i (by kernel_rfl) ?_ | refine vR_skip (by decide) ?_
    | ((with_reducible refine vB_i ?_ ?_) <;> intro _ <;> (first | (exfalso; omega) | (exact absurd trivial ‹¬True›) | (try dsimp only [])))
    | ((with_reducible refine vOps_nil' ?_); refine Kr_i (by kernel_rfl) ?_; generalize hk : plain _ _ = G; simp only [lv, E3, E2, E5, rawX, deadX, SB, List.not_mem_nil, ↓reduceIte, ne_eq, reduceCtorEq, Nat.reduceLT, Nat.reduceEqDiff, Nat.reduceAdd, Nat.reduceMul, Nat.reduceLeDiff, Nat.reduceDiv, Nat.reduceMod, Nat.reduceSub, Nat.reduceBEq, List.length_map, rn_len, nts_len, cut_nts, List.length_take, List.length_drop] at hk; subst hk)
    | with_reducible refine vSeq_i ?_
    | with_reducible first | refine vRegion_i (by kernel_rfl) ?_ | refine Kv_i ?_
    | ((with_reducible apply vStrK_i); (focus (rfl; done)))
    | ((with_reducible refine imp_i ?_); intro _)
    | with_reducible first | refine Ks_n ?_ | refine Ks_r ?_ | refine Ks_e ?_ | refine Kl_e ?_ | refine Kx_n ?_ | refine Kl_r ?_ | refine vRet_i ?_ | refine vSkip_i ?_ | refine vExit_i ?_ | refine vBlock_i ?_ | refine Ks_p ?_ | refine Kl_p ?_ | refine blk_p ?_ | exact Kb_p | refine vGoto_i ?_ | refine vLabel_i ?_ | refine Ks_g ?_ | refine Kl_g ?_ | refine blk_g ?_ | refine jmp_g ?_ | refine jmp_n ?_ | refine jmp_r ?_ | refine nog_n ?_ | refine nog_r ?_ | refine blk_n ?_ | refine blk_r ?_ | refine blk_e ?_ | refine blk_o (by decide) ?_ | refine cp_t ?_ | refine cp_f ?_
    | ((with_reducible apply vCond_x); (focus (simp only [lv, E1, E2, E5, ET, T, orc_mv, noO_mv, mvB, orc_bx, noO_bx, bxB, orc_sx, noO_sx, sxB, fwd, fwds, inv, mOk, Int.toNat_natCast, Nat.div_one, Nat.mul_one, Int.reduceToNat, SB, List.not_mem_nil, ↓reduceIte, ne_eq, reduceCtorEq, Nat.reduceLT, Nat.reduceEqDiff, Nat.reduceAdd, Nat.reduceMul, Nat.reduceLeDiff, Nat.reduceDiv, Nat.reduceMod, Nat.reduceSub, Nat.reduceBEq, List.length_map, rn_len, nts_len, cut_nts, List.length_take, List.length_drop]; with_reducible first | exact Eq.refl (bo true) | exact Eq.refl (bo false))))
    | ((with_reducible refine And.intro ?_ ?_); (focus (try omega)))
  · rename_i h1 h2
    refine Kf_r ?_
    simp only [Try.f36, E4, E3, E2, E5, rawX, deadX, ET, T, SB, List.not_mem_nil, ↓reduceIte, ne_eq, reduceCtorEq, Nat.reduceLT, Nat.reduceEqDiff, Nat.reduceAdd, Nat.reduceMul, Nat.reduceLeDiff, Nat.reduceDiv, Nat.reduceMod, Nat.reduceSub, Nat.reduceBEq, List.length_map, rn_len, nts_len, cut_nts, List.length_take, List.length_drop, X.p.injEq, X.tup.injEq, PX.one.injEq, PX.agg.injEq, TV.v.injEq, TV.sr.injEq, SV.raw.injEq, SV.sl.injEq, Value.bool.injEq, Value.int.injEq, List.cons.injEq, Prod.mk.injEq, true_and, and_true, and_self]
    symm; unfold hasF; simp only [decide_eq_true_eq]
    exact ⟨k, by omega, h2⟩
  · rename_i h1 h2
    exact Kl_n ⟨k + 1, ⟨by omega, fun i hi => by rcases Nat.lt_or_eq_of_le (Nat.le_of_lt_succ hi) with q | q; exact hlt i q; exact q ▸ h2⟩, by omega, by simp only [Int.natCast_add, Int.natCast_one]⟩
  · rename_i h1
    refine Kf_r ?_
    simp only [Try.f36, E4, E3, E2, E5, rawX, deadX, ET, T, SB, List.not_mem_nil, ↓reduceIte, ne_eq, reduceCtorEq, Nat.reduceLT, Nat.reduceEqDiff, Nat.reduceAdd, Nat.reduceMul, Nat.reduceLeDiff, Nat.reduceDiv, Nat.reduceMod, Nat.reduceSub, Nat.reduceBEq, List.length_map, rn_len, nts_len, cut_nts, List.length_take, List.length_drop, X.p.injEq, X.tup.injEq, PX.one.injEq, PX.agg.injEq, TV.v.injEq, TV.sr.injEq, SV.raw.injEq, SV.sl.injEq, Value.bool.injEq, Value.int.injEq, List.cons.injEq, Prod.mk.injEq, true_and, and_true, and_self]
    symm; unfold hasF; simp only [decide_eq_false_iff_not]
    rintro ⟨i, hi, q⟩
    exact hlt i (by omega) q
/-- The side of the last type ahead that has one. -/
def ahd (t : List Int) (sos : Int) : Nat → Int
  | 0 => sos
  | k + 1 => if sdF (t.getD k 0) ≠ 0 then sdF (t.getD k 0) else ahd t sos k
set_option maxRecDepth 10000 in
set_option maxHeartbeats 4000000 in
theorem ahead_ok (t : List Int) (a : Nat) (sos : Int) (ha : a ≤ t.length) (hl : t.length ≤ 2000000) : CallOk Try.prog 37 [sl (nts t), i64 a, i64 sos] (i64 (ahd t sos a)) [] true := by
  refine fn_ok' T_ok (orc_ok _) mixed Try.func37 rfl (by kernel_rfl) (lv [[0, 1, 2], [0, 2, 7], [0, 2, 7, 11], [0, 2, 7], [0, 2, 7, 19], [6], [6]]) 26 rfl (by simp) rfl (by simp [X.all, PX.all, TV.rawR, SV.isRaw]) ?_
  simp only [argsG, Nat.zero_add, Nat.reduceAdd]
  repeat' first
    | ((first
        | ((with_reducible refine vR_cons (by decide) ?_); generalize hk : KtR _ _ _ _ _ _ _ _ _ _ = k)
        | ((first
        | with_reducible refine vOps_cons' ?_) <;> generalize hk : Kt _ _ _ _ _ _ _ _ _ = k)) <;> (simp only [Try.f37, lv, E1, E2, E5, ET, T, orc_mv, noO_mv, mvB, orc_bx, noO_bx, bxB, orc_sx, noO_sx, sxB, fwd, fwds, inv, mOk, Int.toNat_natCast, Nat.div_one, Nat.mul_one, Int.reduceToNat, SB, List.not_mem_nil, ↓reduceIte, ne_eq, reduceCtorEq, Nat.reduceLT, Nat.reduceEqDiff, Nat.reduceAdd, Nat.reduceMul, Nat.reduceLeDiff, Nat.reduceDiv, Nat.reduceMod, Nat.reduceSub, Nat.reduceBEq, List.length_map, rn_len, nts_len, cut_nts, List.length_take, List.length_drop]; (try simp (disch := omega) only [wrap_in, Int.toNat_natCast, tv_rn, tv_nts]); subst hk))
    | with_reducible first | refine Kt_p ?_ | refine Kt_i (by kernel_rfl) ?_ | refine Kr_f (by kernel_rfl) ?_
    | (with_reducible refine Kr_t ?_; simp only [List.length_append, List.length_cons, List.length_nil, Nat.reduceAdd, Nat.reduceSub, List.drop_succ_cons, List.drop_zero])
    | with_reducible first | refine vR_nil ?_ | refine KtR_i (by kernel_rfl) ?_ | refine KrR_i (by kernel_rfl) ?_ | refine vR_skip (by decide) ?_
    | ((with_reducible refine vB_i ?_ ?_) <;> intro _ <;> (first | (exfalso; omega) | (exact absurd trivial ‹¬True›) | (try dsimp only [])))
    | ((with_reducible refine vOps_nil' ?_); refine Kr_i (by kernel_rfl) ?_; generalize hk : plain _ _ = G; simp only [lv, E3, E2, E5, rawX, deadX, SB, List.not_mem_nil, ↓reduceIte, ne_eq, reduceCtorEq, Nat.reduceLT, Nat.reduceEqDiff, Nat.reduceAdd, Nat.reduceMul, Nat.reduceLeDiff, Nat.reduceDiv, Nat.reduceMod, Nat.reduceSub, Nat.reduceBEq, List.length_map, rn_len, nts_len, cut_nts, List.length_take, List.length_drop] at hk; subst hk)
    | with_reducible refine vSeq_i ?_
    | with_reducible first | refine vRegion_i (by kernel_rfl) ?_ | refine Kv_i ?_
    | ((with_reducible apply vStrK_i); (focus (rfl; done)))
    | ((with_reducible refine imp_i ?_); intro _)
    | with_reducible first | refine Ks_n ?_ | refine Ks_r ?_ | refine Ks_e ?_ | refine Kl_e ?_ | refine Kx_n ?_ | refine Kl_r ?_ | refine vRet_i ?_ | refine vSkip_i ?_ | refine vExit_i ?_ | refine vBlock_i ?_ | refine Ks_p ?_ | refine Kl_p ?_ | refine blk_p ?_ | exact Kb_p | refine vGoto_i ?_ | refine vLabel_i ?_ | refine Ks_g ?_ | refine Kl_g ?_ | refine blk_g ?_ | refine jmp_g ?_ | refine jmp_n ?_ | refine jmp_r ?_ | refine nog_n ?_ | refine nog_r ?_ | refine blk_n ?_ | refine blk_r ?_ | refine blk_e ?_ | refine blk_o (by decide) ?_ | refine cp_t ?_ | refine cp_f ?_
    | ((with_reducible apply vCond_x); (focus (simp only [lv, E1, E2, E5, ET, T, orc_mv, noO_mv, mvB, orc_bx, noO_bx, bxB, orc_sx, noO_sx, sxB, fwd, fwds, inv, mOk, Int.toNat_natCast, Nat.div_one, Nat.mul_one, Int.reduceToNat, SB, List.not_mem_nil, ↓reduceIte, ne_eq, reduceCtorEq, Nat.reduceLT, Nat.reduceEqDiff, Nat.reduceAdd, Nat.reduceMul, Nat.reduceLeDiff, Nat.reduceDiv, Nat.reduceMod, Nat.reduceSub, Nat.reduceBEq, List.length_map, rn_len, nts_len, cut_nts, List.length_take, List.length_drop]; with_reducible first | exact Eq.refl (bo true) | exact Eq.refl (bo false))))
    | ((with_reducible refine And.intro ?_ ?_); (focus (try omega)))
  refine vLoop_s (fun k : Nat => [(.t 0, .t (sl (nts t))), (.t 2, .t (i64 sos)), (.t 7, .t (i64 ((k : Int) - 1)))]) (fun k => k ≤ a ∧ ahd t sos a = ahd t sos k) (fun k => k) a ⟨by omega, rfl⟩ rfl ?_
  rintro k ⟨hk, heq⟩
  cases k with
  | zero =>
    repeat' first
      | ((first
          | ((with_reducible refine vR_cons (by decide) ?_); generalize hk : KtR _ _ _ _ _ _ _ _ _ _ = k)
          | ((first
          | with_reducible refine vOps_cons' ?_) <;> generalize hk : Kt _ _ _ _ _ _ _ _ _ = k)) <;> (simp only [Try.f37, lv, E1, E2, E5, ET, T, orc_mv, noO_mv, mvB, orc_bx, noO_bx, bxB, orc_sx, noO_sx, sxB, fwd, fwds, inv, mOk, Int.toNat_natCast, Nat.div_one, Nat.mul_one, Int.reduceToNat, SB, List.not_mem_nil, ↓reduceIte, ne_eq, reduceCtorEq, Nat.reduceLT, Nat.reduceEqDiff, Nat.reduceAdd, Nat.reduceMul, Nat.reduceLeDiff, Nat.reduceDiv, Nat.reduceMod, Nat.reduceSub, Nat.reduceBEq, List.length_map, rn_len, nts_len, cut_nts, List.length_take, List.length_drop]; (try simp (disch := omega) only [wrap_in, Int.toNat_natCast, tv_rn, tv_nts]); subst hk))
      | with_reducible first | refine Kt_p ?_ | refine Kt_i (by kernel_rfl) ?_ | refine Kr_f (by kernel_rfl) ?_
      | (with_reducible refine Kr_t ?_; simp only [List.length_append, List.length_cons, List.length_nil, Nat.reduceAdd, Nat.reduceSub, List.drop_succ_cons, List.drop_zero])
      | with_reducible first | refine vR_nil ?_ | refine KtR_i (by kernel_rfl) ?_ | refine KrR_i (by kernel_rfl) ?_ | refine vR_skip (by decide) ?_
      | ((with_reducible refine vB_i ?_ ?_) <;> intro _ <;> (first | (exfalso; omega) | (exact absurd trivial ‹¬True›) | (try dsimp only [])))
      | ((with_reducible refine vOps_nil' ?_); refine Kr_i (by kernel_rfl) ?_; generalize hk : plain _ _ = G; simp only [lv, E3, E2, E5, rawX, deadX, SB, List.not_mem_nil, ↓reduceIte, ne_eq, reduceCtorEq, Nat.reduceLT, Nat.reduceEqDiff, Nat.reduceAdd, Nat.reduceMul, Nat.reduceLeDiff, Nat.reduceDiv, Nat.reduceMod, Nat.reduceSub, Nat.reduceBEq, List.length_map, rn_len, nts_len, cut_nts, List.length_take, List.length_drop] at hk; subst hk)
      | with_reducible refine vSeq_i ?_
      | with_reducible first | refine vRegion_i (by kernel_rfl) ?_ | refine Kv_i ?_
      | ((with_reducible apply vStrK_i); (focus (rfl; done)))
      | ((with_reducible refine imp_i ?_); intro _)
      | with_reducible first | refine Ks_n ?_ | refine Ks_r ?_ | refine Ks_e ?_ | refine Kl_e ?_ | refine Kx_n ?_ | refine Kl_r ?_ | refine vRet_i ?_ | refine vSkip_i ?_ | refine vExit_i ?_ | refine vBlock_i ?_ | refine Ks_p ?_ | refine Kl_p ?_ | refine blk_p ?_ | exact Kb_p | refine vGoto_i ?_ | refine vLabel_i ?_ | refine Ks_g ?_ | refine Kl_g ?_ | refine blk_g ?_ | refine jmp_g ?_ | refine jmp_n ?_ | refine jmp_r ?_ | refine nog_n ?_ | refine nog_r ?_ | refine blk_n ?_ | refine blk_r ?_ | refine blk_e ?_ | refine blk_o (by decide) ?_ | refine cp_t ?_ | refine cp_f ?_
      | ((with_reducible apply vCond_x); (focus (simp only [lv, E1, E2, E5, ET, T, orc_mv, noO_mv, mvB, orc_bx, noO_bx, bxB, orc_sx, noO_sx, sxB, fwd, fwds, inv, mOk, Int.toNat_natCast, Nat.div_one, Nat.mul_one, Int.reduceToNat, SB, List.not_mem_nil, ↓reduceIte, ne_eq, reduceCtorEq, Nat.reduceLT, Nat.reduceEqDiff, Nat.reduceAdd, Nat.reduceMul, Nat.reduceLeDiff, Nat.reduceDiv, Nat.reduceMod, Nat.reduceSub, Nat.reduceBEq, List.length_map, rn_len, nts_len, cut_nts, List.length_take, List.length_drop]; with_reducible first | exact Eq.refl (bo true) | exact Eq.refl (bo false))))
      | ((with_reducible refine And.intro ?_ ?_); (focus (try omega)))
    all_goals try (exfalso; omega)
    refine Kf_r ?_
    simp only [Try.f37, E4, E3, E2, E5, rawX, deadX, ET, T, SB, List.not_mem_nil, ↓reduceIte, ne_eq, reduceCtorEq, Nat.reduceLT, Nat.reduceEqDiff, Nat.reduceAdd, Nat.reduceMul, Nat.reduceLeDiff, Nat.reduceDiv, Nat.reduceMod, Nat.reduceSub, Nat.reduceBEq, List.length_map, rn_len, nts_len, cut_nts, List.length_take, List.length_drop, heq, ahd]
  | succ m =>
    rw [show (((m + 1 : Nat) : Int) - 1) = (m : Int) by omega]
    repeat' first
      | ((first
          | ((with_reducible refine vR_cons (by decide) ?_); generalize hk : KtR _ _ _ _ _ _ _ _ _ _ = k)
          | ((first
          | with_reducible refine vOps_cons' ?_
          | ((with_reducible apply orc_i); (focus (exact side1_ok _; done)))) <;> generalize hk : Kt _ _ _ _ _ _ _ _ _ = k)) <;> (simp only [Try.f37, lv, E1, E2, E5, ET, T, orc_mv, noO_mv, mvB, orc_bx, noO_bx, bxB, orc_sx, noO_sx, sxB, fwd, fwds, inv, mOk, Int.toNat_natCast, Nat.div_one, Nat.mul_one, Int.reduceToNat, SB, List.not_mem_nil, ↓reduceIte, ne_eq, reduceCtorEq, Nat.reduceLT, Nat.reduceEqDiff, Nat.reduceAdd, Nat.reduceMul, Nat.reduceLeDiff, Nat.reduceDiv, Nat.reduceMod, Nat.reduceSub, Nat.reduceBEq, List.length_map, rn_len, nts_len, cut_nts, List.length_take, List.length_drop]; (try simp (disch := omega) only [wrap_in, Int.toNat_natCast, tv_rn, tv_nts]); subst hk))
      | with_reducible first | refine Kt_p ?_ | refine Kt_i (by kernel_rfl) ?_ | refine Kr_f (by kernel_rfl) ?_
      | (with_reducible refine Kr_t ?_; simp only [List.length_append, List.length_cons, List.length_nil, Nat.reduceAdd, Nat.reduceSub, List.drop_succ_cons, List.drop_zero])
      | with_reducible first | refine vR_nil ?_ | refine KtR_i (by kernel_rfl) ?_ | refine KrR_i (by kernel_rfl) ?_ | refine vR_skip (by decide) ?_
      | ((with_reducible refine vB_i ?_ ?_) <;> intro _ <;> (first | (exfalso; omega) | (exact absurd trivial ‹¬True›) | (try dsimp only [])))
      | ((with_reducible refine vOps_nil' ?_); refine Kr_i (by kernel_rfl) ?_; generalize hk : plain _ _ = G; simp only [lv, E3, E2, E5, rawX, deadX, SB, List.not_mem_nil, ↓reduceIte, ne_eq, reduceCtorEq, Nat.reduceLT, Nat.reduceEqDiff, Nat.reduceAdd, Nat.reduceMul, Nat.reduceLeDiff, Nat.reduceDiv, Nat.reduceMod, Nat.reduceSub, Nat.reduceBEq, List.length_map, rn_len, nts_len, cut_nts, List.length_take, List.length_drop] at hk; subst hk)
      | with_reducible refine vSeq_i ?_
      | with_reducible first | refine vRegion_i (by kernel_rfl) ?_ | refine Kv_i ?_
      | ((with_reducible apply vStrK_i); (focus (rfl; done)))
      | ((with_reducible refine imp_i ?_); intro _)
      | with_reducible first | refine Ks_n ?_ | refine Ks_r ?_ | refine Ks_e ?_ | refine Kl_e ?_ | refine Kx_n ?_ | refine Kl_r ?_ | refine vRet_i ?_ | refine vSkip_i ?_ | refine vExit_i ?_ | refine vBlock_i ?_ | refine Ks_p ?_ | refine Kl_p ?_ | refine blk_p ?_ | exact Kb_p | refine vGoto_i ?_ | refine vLabel_i ?_ | refine Ks_g ?_ | refine Kl_g ?_ | refine blk_g ?_ | refine jmp_g ?_ | refine jmp_n ?_ | refine jmp_r ?_ | refine nog_n ?_ | refine nog_r ?_ | refine blk_n ?_ | refine blk_r ?_ | refine blk_e ?_ | refine blk_o (by decide) ?_ | refine cp_t ?_ | refine cp_f ?_
      | ((with_reducible apply vCond_x); (focus (simp only [lv, E1, E2, E5, ET, T, orc_mv, noO_mv, mvB, orc_bx, noO_bx, bxB, orc_sx, noO_sx, sxB, fwd, fwds, inv, mOk, Int.toNat_natCast, Nat.div_one, Nat.mul_one, Int.reduceToNat, SB, List.not_mem_nil, ↓reduceIte, ne_eq, reduceCtorEq, Nat.reduceLT, Nat.reduceEqDiff, Nat.reduceAdd, Nat.reduceMul, Nat.reduceLeDiff, Nat.reduceDiv, Nat.reduceMod, Nat.reduceSub, Nat.reduceBEq, List.length_map, rn_len, nts_len, cut_nts, List.length_take, List.length_drop]; with_reducible first | exact Eq.refl (bo true) | exact Eq.refl (bo false))))
      | ((with_reducible refine And.intro ?_ ?_); (focus (try omega)))
    · rename_i h1 h2
      exact Kl_n ⟨m, ⟨by omega, by rw [heq, ahd, if_neg (fun q => q h2)]⟩, by omega, rfl⟩
    · rename_i h1 h2
      refine Kf_r ?_
      simp only [Try.f37, E4, E3, E2, E5, rawX, deadX, ET, T, SB, List.not_mem_nil, ↓reduceIte, ne_eq, reduceCtorEq, Nat.reduceLT, Nat.reduceEqDiff, Nat.reduceAdd, Nat.reduceMul, Nat.reduceLeDiff, Nat.reduceDiv, Nat.reduceMod, Nat.reduceSub, Nat.reduceBEq, List.length_map, rn_len, nts_len, cut_nts, List.length_take, List.length_drop]
      rw [heq, ahd, if_pos h2]
/-- What lies inside a pair. -/
def insF (t : List Int) (a b : Nat) : List Int := (t.drop ((a : Int) + 1).toNat).take ((b : Int) - ((a : Int) + 1)).toNat
theorem insF_len {t : List Int} {a b : Nat} (h1 : a < b) (h2 : b ≤ t.length) : (insF t a b).length = b - a - 1 := by
  unfold insF; rw [List.length_take, List.length_drop]; omega
/-- What a pair gets; 0: nothing. -/
def dirF (t : List Int) (a b : Nat) (e sos : Int) : Int := if hasF (insF t a b) e = true then e else if hasF (insF t a b) (3 - e) = true then ahd t sos a else 0
abbrev pr2 (a b : Int) : X := .p (.agg [.v (.raw (.int .i64 a)), .v (.raw (.int .i64 b))])
structure DirI (I : List Int) (e : Int) (z : Nat × Bool) : Prop where
  le : z.1 ≤ I.length
  no : ∀ i, i < z.1 → sdF (I.getD i 0) ≠ e
  yes : z.2 = true → ∃ i, i < z.1 ∧ sdF (I.getD i 0) = 3 - e
  ev : z.2 = false → ∀ i, i < z.1 → sdF (I.getD i 0) = 0
theorem ahd_rng (t : List Int) {sos : Int} (h : sos = 1 ∨ sos = 2) : ∀ a, ahd t sos a = 1 ∨ ahd t sos a = 2
  | 0 => h
  | k + 1 => by
    unfold ahd
    have := sd_rng (t.getD k 0)
    split
    · omega
    · exact ahd_rng t h k
theorem DirI.s0 {I : List Int} {e : Int} {k : Nat} {o : Bool} (h : DirI I e (k, o)) (hk : k < I.length) (h0 : sdF (I.getD k 0) = 0) (he : e = 1 ∨ e = 2) : DirI I e (k + 1, o) := by
  obtain ⟨_, h2, h3, h4⟩ := h
  refine ⟨hk, fun i hi => ?_, fun q => ?_, fun q i hi => ?_⟩
  · rcases Nat.lt_or_eq_of_le (Nat.le_of_lt_succ hi) with q | q
    · exact h2 i q
    · rw [q, h0]; omega
  · obtain ⟨i, hi, hx⟩ := h3 q; exact ⟨i, Nat.lt_succ_of_lt hi, hx⟩
  · rcases Nat.lt_or_eq_of_le (Nat.le_of_lt_succ hi) with q' | q'
    · exact h4 q i q'
    · rw [q', h0]
theorem DirI.s1 {I : List Int} {e : Int} {k : Nat} {o : Bool} (h : DirI I e (k, o)) (hk : k < I.length) (h0 : ¬ sdF (I.getD k 0) = 0) (h1 : ¬ sdF (I.getD k 0) = e) (he : e = 1 ∨ e = 2) : DirI I e (k + 1, true) := by
  obtain ⟨_, h2, _, _⟩ := h
  have := sd_rng (I.getD k 0)
  refine ⟨hk, fun i hi => ?_, fun _ => ⟨k, Nat.lt_succ_self k, by omega⟩, fun q => by cases q⟩
  rcases Nat.lt_or_eq_of_le (Nat.le_of_lt_succ hi) with q | q
  · exact h2 i q
  · rw [q]; exact h1
theorem DirI.hit {I : List Int} {e : Int} {k : Nat} (hk : k < I.length) (h : sdF (I.getD k 0) = e) : hasF I e = true := by
  unfold hasF; exact decide_eq_true ⟨k, hk, h⟩
theorem DirI.e0 {I : List Int} {e : Int} {k : Nat} {o : Bool} (h : DirI I e (k, o)) (hk : ¬ k < I.length) : hasF I e = false := by
  unfold hasF; exact decide_eq_false fun ⟨i, hi, q⟩ => h.no i (by show i < k; omega) q
theorem DirI.e1 {I : List Int} {e : Int} {k : Nat} (h : DirI I e (k, false)) (hk : ¬ k < I.length) (he : e = 1 ∨ e = 2) : hasF I (3 - e) = false := by
  unfold hasF; exact decide_eq_false fun ⟨i, hi, q⟩ => by have := h.ev rfl i (by show i < k; omega); omega
theorem DirI.e2 {I : List Int} {e : Int} {k : Nat} (h : DirI I e (k, true)) : hasF I (3 - e) = true := by
  obtain ⟨i, hi, q⟩ := h.yes rfl
  have := h.le
  unfold hasF; exact decide_eq_true ⟨i, by simp only [] at hi this; omega, q⟩
set_option maxRecDepth 10000 in
set_option maxHeartbeats 4000000 in
theorem direction_ok (t : List Int) (a b : Nat) (e sos : Int) (h1 : a < b) (h2 : b ≤ t.length) (hl : t.length ≤ 2000000) (he : e = 1 ∨ e = 2) : CallOk Try.prog 25 [sl (nts t), pr2 a b, i64 e, i64 sos] (i64 (dirF t a b e sos)) [] true := by
  have hI := insF_len h1 h2
  obtain ⟨I, hIe⟩ : ∃ I, I = insF t a b := ⟨_, rfl⟩
  have hIx : cutSV 1 (nts t) ((a : Int) + 1) (b : Int) = nts I := by rw [cut_nts, hIe]; rfl
  refine fn_ok' T_ok (orc_ok _) mixed Try.func25 rfl (by kernel_rfl) (lv [[0, 2, 3, 5], [0, 2, 3, 5, 9], [0, 2, 3, 5, 9, 21, 22, 23], [0, 2, 3, 5, 9, 21, 22, 23, 24], [0, 2, 3, 5, 9, 11, 21, 22, 23], [0, 2, 3, 5, 9, 21, 22, 23, 28], [0, 2, 3, 5, 9, 21, 22, 23], [0, 2, 3, 5, 9, 21, 22, 23, 28, 29], [0, 2, 3, 5, 21, 22, 23, 31], [8], [0, 2, 3, 5, 9, 21, 22, 23], [0, 3, 5, 37], [8], [0, 5, 12], [0, 12, 13], [0, 12, 13, 43], [0, 12, 13], [0, 12, 13, 14], [0, 12, 13, 14, 52], [12], [8]]) 55 rfl (by simp) rfl (by simp [X.all, PX.all, TV.rawR, SV.isRaw]) ?_
  simp only [argsG, Nat.zero_add, Nat.reduceAdd]
  repeat' first
    | ((first
        | ((with_reducible refine vR_cons (by decide) ?_); generalize hk : KtR _ _ _ _ _ _ _ _ _ _ = k)
        | ((first
        | with_reducible refine vOps_cons' ?_) <;> generalize hk : Kt _ _ _ _ _ _ _ _ _ = k)) <;> (simp only [Try.f25, lv, E1, E2, E5, ET, T, orc_mv, noO_mv, mvB, orc_bx, noO_bx, bxB, orc_sx, noO_sx, sxB, fwd, fwds, inv, mOk, Int.toNat_natCast, Nat.div_one, Nat.mul_one, Int.reduceToNat, SB, List.not_mem_nil, ↓reduceIte, ne_eq, reduceCtorEq, Nat.reduceLT, Nat.reduceEqDiff, Nat.reduceAdd, Nat.reduceMul, Nat.reduceLeDiff, Nat.reduceDiv, Nat.reduceMod, Nat.reduceSub, Nat.reduceBEq, List.length_map, rn_len, nts_len, cut_nts, List.length_take, List.length_drop]; (try simp (disch := omega) only [wrap_in, Int.toNat_natCast, tv_rn, tv_nts]); subst hk))
    | with_reducible first | refine Kt_p ?_ | refine Kt_i (by kernel_rfl) ?_ | refine Kr_f (by kernel_rfl) ?_
    | (with_reducible refine Kr_t ?_; simp only [List.length_append, List.length_cons, List.length_nil, Nat.reduceAdd, Nat.reduceSub, List.drop_succ_cons, List.drop_zero])
    | with_reducible first | refine vR_nil ?_ | refine KtR_i (by kernel_rfl) ?_ | refine KrR_i (by kernel_rfl) ?_ | refine vR_skip (by decide) ?_
    | ((with_reducible refine vB_i ?_ ?_) <;> intro _ <;> (first | (exfalso; omega) | (exact absurd trivial ‹¬True›) | (try dsimp only [])))
    | ((with_reducible refine vOps_nil' ?_); refine Kr_i (by kernel_rfl) ?_; generalize hk : plain _ _ = G; simp only [lv, E3, E2, E5, rawX, deadX, SB, List.not_mem_nil, ↓reduceIte, ne_eq, reduceCtorEq, Nat.reduceLT, Nat.reduceEqDiff, Nat.reduceAdd, Nat.reduceMul, Nat.reduceLeDiff, Nat.reduceDiv, Nat.reduceMod, Nat.reduceSub, Nat.reduceBEq, List.length_map, rn_len, nts_len, cut_nts, List.length_take, List.length_drop] at hk; subst hk)
    | with_reducible refine vSeq_i ?_
    | with_reducible first | refine vRegion_i (by kernel_rfl) ?_ | refine Kv_i ?_
    | ((with_reducible apply vStrK_i); (focus (rfl; done)))
    | ((with_reducible refine imp_i ?_); intro _)
    | with_reducible first | refine Ks_n ?_ | refine Ks_r ?_ | refine Ks_e ?_ | refine Kl_e ?_ | refine Kx_n ?_ | refine Kl_r ?_ | refine vRet_i ?_ | refine vSkip_i ?_ | refine vExit_i ?_ | refine vBlock_i ?_ | refine Ks_p ?_ | refine Kl_p ?_ | refine blk_p ?_ | exact Kb_p | refine vGoto_i ?_ | refine vLabel_i ?_ | refine Ks_g ?_ | refine Kl_g ?_ | refine blk_g ?_ | refine jmp_g ?_ | refine jmp_n ?_ | refine jmp_r ?_ | refine nog_n ?_ | refine nog_r ?_ | refine blk_n ?_ | refine blk_r ?_ | refine blk_e ?_ | refine blk_o (by decide) ?_ | refine cp_t ?_ | refine cp_f ?_
    | ((with_reducible apply vCond_x); (focus (simp only [lv, E1, E2, E5, ET, T, orc_mv, noO_mv, mvB, orc_bx, noO_bx, bxB, orc_sx, noO_sx, sxB, fwd, fwds, inv, mOk, Int.toNat_natCast, Nat.div_one, Nat.mul_one, Int.reduceToNat, SB, List.not_mem_nil, ↓reduceIte, ne_eq, reduceCtorEq, Nat.reduceLT, Nat.reduceEqDiff, Nat.reduceAdd, Nat.reduceMul, Nat.reduceLeDiff, Nat.reduceDiv, Nat.reduceMod, Nat.reduceSub, Nat.reduceBEq, List.length_map, rn_len, nts_len, cut_nts, List.length_take, List.length_drop]; with_reducible first | exact Eq.refl (bo true) | exact Eq.refl (bo false))))
    | ((with_reducible refine And.intro ?_ ?_); (focus (try omega)))
  all_goals try (exfalso; omega)
  have hf : List.take ((b : Int) - ((a : Int) + 1)).toNat (List.drop ((a : Int) + 1).toNat t) = I := hIe.symm
  have hm : min ((b : Int) - ((a : Int) + 1)).toNat (t.length - ((a : Int) + 1).toNat) = I.length := by rw [hIe, hI]; omega
  have hIl : I.length ≤ 2000000 := by rw [hIe, hI]; omega
  have hD : dirF t a b e sos = if hasF I e = true then e else if hasF I (3 - e) = true then ahd t sos a else 0 := by rw [hIe]; rfl
  rw [hf, hm, hD]
  refine vLoop_s (fun z : Nat × Bool => [(.t 0, .t (sl (nts t))), (.t 2, .t (i64 e)), (.t 3, .t (i64 sos)), (.t 5, .t (.p (.one (.pr 0 0)))), (.t 9, .t (bo z.2)), (.t 21, .t (sl (nts I))), (.t 22, .t (i64 I.length)), (.t 23, .t (i64 z.1)), (.box 0, .box 42 [.v (.raw (.int .i64 a)), .v (.raw (.int .i64 b))])]) (DirI I e) (fun z => I.length - z.1) (0, false) ⟨Nat.zero_le _, fun i h => absurd h (Nat.not_lt_zero _), fun h => (by cases h), fun _ i h => absurd h (Nat.not_lt_zero _)⟩ rfl ?_
  rintro ⟨k, o⟩ hJ
  have hk : k ≤ I.length := hJ.le
  have hs := sd_rng (I.getD k 0)
  cases o
  · skip
    repeat' first
      | ((first
          | ((with_reducible refine vR_cons (by decide) ?_); generalize hk : KtR _ _ _ _ _ _ _ _ _ _ = k)
          | ((first
          | with_reducible refine vOps_cons' ?_
          | ((with_reducible apply orc_i); (focus (exact side_ok _; done)))) <;> generalize hk : Kt _ _ _ _ _ _ _ _ _ = k)) <;> (simp only [Try.f25, lv, E1, E2, E5, ET, T, orc_mv, noO_mv, mvB, orc_bx, noO_bx, bxB, orc_sx, noO_sx, sxB, fwd, fwds, inv, mOk, Int.toNat_natCast, Nat.div_one, Nat.mul_one, Int.reduceToNat, SB, List.not_mem_nil, ↓reduceIte, ne_eq, reduceCtorEq, Nat.reduceLT, Nat.reduceEqDiff, Nat.reduceAdd, Nat.reduceMul, Nat.reduceLeDiff, Nat.reduceDiv, Nat.reduceMod, Nat.reduceSub, Nat.reduceBEq, List.length_map, rn_len, nts_len, cut_nts, List.length_take, List.length_drop]; (try simp (disch := omega) only [wrap_in, Int.toNat_natCast, tv_rn, tv_nts]); subst hk))
      | with_reducible first | refine Kt_p ?_ | refine Kt_i (by kernel_rfl) ?_ | refine Kr_f (by kernel_rfl) ?_
      | (with_reducible refine Kr_t ?_; simp only [List.length_append, List.length_cons, List.length_nil, Nat.reduceAdd, Nat.reduceSub, List.drop_succ_cons, List.drop_zero])
      | with_reducible first | refine vR_nil ?_ | refine KtR_i (by kernel_rfl) ?_ | refine KrR_i (by kernel_rfl) ?_ | refine vR_skip (by decide) ?_
      | ((with_reducible refine vB_i ?_ ?_) <;> intro _ <;> (first | (exfalso; omega) | (exact absurd trivial ‹¬True›) | (try dsimp only [])))
      | ((with_reducible refine vOps_nil' ?_); refine Kr_i (by kernel_rfl) ?_; generalize hk : plain _ _ = G; simp only [lv, E3, E2, E5, rawX, deadX, SB, List.not_mem_nil, ↓reduceIte, ne_eq, reduceCtorEq, Nat.reduceLT, Nat.reduceEqDiff, Nat.reduceAdd, Nat.reduceMul, Nat.reduceLeDiff, Nat.reduceDiv, Nat.reduceMod, Nat.reduceSub, Nat.reduceBEq, List.length_map, rn_len, nts_len, cut_nts, List.length_take, List.length_drop] at hk; subst hk)
      | with_reducible refine vSeq_i ?_
      | with_reducible first | refine vRegion_i (by kernel_rfl) ?_ | refine Kv_i ?_
      | ((with_reducible apply vStrK_i); (focus (rfl; done)))
      | ((with_reducible refine imp_i ?_); intro _)
      | with_reducible first | refine Ks_n ?_ | refine Ks_r ?_ | refine Ks_e ?_ | refine Kl_e ?_ | refine Kx_n ?_ | refine Kl_r ?_ | refine vRet_i ?_ | refine vSkip_i ?_ | refine vExit_i ?_ | refine vBlock_i ?_ | refine Ks_p ?_ | refine Kl_p ?_ | refine blk_p ?_ | exact Kb_p | refine vGoto_i ?_ | refine vLabel_i ?_ | refine Ks_g ?_ | refine Kl_g ?_ | refine blk_g ?_ | refine jmp_g ?_ | refine jmp_n ?_ | refine jmp_r ?_ | refine nog_n ?_ | refine nog_r ?_ | refine blk_n ?_ | refine blk_r ?_ | refine blk_e ?_ | refine blk_o (by decide) ?_ | refine cp_t ?_ | refine cp_f ?_
      | ((with_reducible apply vCond_x); (focus (simp only [lv, E1, E2, E5, ET, T, orc_mv, noO_mv, mvB, orc_bx, noO_bx, bxB, orc_sx, noO_sx, sxB, fwd, fwds, inv, mOk, Int.toNat_natCast, Nat.div_one, Nat.mul_one, Int.reduceToNat, SB, List.not_mem_nil, ↓reduceIte, ne_eq, reduceCtorEq, Nat.reduceLT, Nat.reduceEqDiff, Nat.reduceAdd, Nat.reduceMul, Nat.reduceLeDiff, Nat.reduceDiv, Nat.reduceMod, Nat.reduceSub, Nat.reduceBEq, List.length_map, rn_len, nts_len, cut_nts, List.length_take, List.length_drop]; with_reducible first | exact Eq.refl (bo true) | exact Eq.refl (bo false))))
      | ((with_reducible refine And.intro ?_ ?_); (focus (try omega)))
    all_goals try (exfalso; omega)
    · rename_i h3 h4
      exact Kl_n ⟨(k + 1, false), (hJ.s0 (by omega) h4 he), by show I.length - (k + 1) < I.length - k; omega, by simp only [Int.natCast_add, Int.natCast_one]⟩
    · rename_i h3 h4 h5
      refine Kf_r ?_
      simp only [Try.f25, E4, E3, E2, E5, rawX, deadX, ET, T, SB, List.not_mem_nil, ↓reduceIte, ne_eq, reduceCtorEq, Nat.reduceLT, Nat.reduceEqDiff, Nat.reduceAdd, Nat.reduceMul, Nat.reduceLeDiff, Nat.reduceDiv, Nat.reduceMod, Nat.reduceSub, Nat.reduceBEq, List.length_map, rn_len, nts_len, cut_nts, List.length_take, List.length_drop]
      rw [if_pos (DirI.hit (by omega) h5)]
    · rename_i h3 h4 h5
      exact Kl_n ⟨(k + 1, true), (hJ.s1 (by omega) h4 h5 he), by show I.length - (k + 1) < I.length - k; omega, by simp only [Int.natCast_add, Int.natCast_one]⟩
    · rename_i h3
      refine Kf_r ?_
      simp only [Try.f25, E4, E3, E2, E5, rawX, deadX, ET, T, SB, List.not_mem_nil, ↓reduceIte, ne_eq, reduceCtorEq, Nat.reduceLT, Nat.reduceEqDiff, Nat.reduceAdd, Nat.reduceMul, Nat.reduceLeDiff, Nat.reduceDiv, Nat.reduceMod, Nat.reduceSub, Nat.reduceBEq, List.length_map, rn_len, nts_len, cut_nts, List.length_take, List.length_drop]
      rw [hJ.e0 (by omega), hJ.e1 (by omega) he]; rfl
  · skip
    repeat' first
      | ((first
          | ((with_reducible refine vR_cons (by decide) ?_); generalize hk : KtR _ _ _ _ _ _ _ _ _ _ = k)
          | ((first
          | with_reducible refine vOps_cons' ?_
          | ((with_reducible apply orc_i); (focus (exact side_ok _; done)))) <;> generalize hk : Kt _ _ _ _ _ _ _ _ _ = k)) <;> (simp only [Try.f25, lv, E1, E2, E5, ET, T, orc_mv, noO_mv, mvB, orc_bx, noO_bx, bxB, orc_sx, noO_sx, sxB, fwd, fwds, inv, mOk, Int.toNat_natCast, Nat.div_one, Nat.mul_one, Int.reduceToNat, SB, List.not_mem_nil, ↓reduceIte, ne_eq, reduceCtorEq, Nat.reduceLT, Nat.reduceEqDiff, Nat.reduceAdd, Nat.reduceMul, Nat.reduceLeDiff, Nat.reduceDiv, Nat.reduceMod, Nat.reduceSub, Nat.reduceBEq, List.length_map, rn_len, nts_len, cut_nts, List.length_take, List.length_drop]; (try simp (disch := omega) only [wrap_in, Int.toNat_natCast, tv_rn, tv_nts]); subst hk))
      | with_reducible first | refine Kt_p ?_ | refine Kt_i (by kernel_rfl) ?_ | refine Kr_f (by kernel_rfl) ?_
      | (with_reducible refine Kr_t ?_; simp only [List.length_append, List.length_cons, List.length_nil, Nat.reduceAdd, Nat.reduceSub, List.drop_succ_cons, List.drop_zero])
      | with_reducible first | refine vR_nil ?_ | refine KtR_i (by kernel_rfl) ?_ | refine KrR_i (by kernel_rfl) ?_ | refine vR_skip (by decide) ?_
      | ((with_reducible refine vB_i ?_ ?_) <;> intro _ <;> (first | (exfalso; omega) | (exact absurd trivial ‹¬True›) | (try dsimp only [])))
      | ((with_reducible refine vOps_nil' ?_); refine Kr_i (by kernel_rfl) ?_; generalize hk : plain _ _ = G; simp only [lv, E3, E2, E5, rawX, deadX, SB, List.not_mem_nil, ↓reduceIte, ne_eq, reduceCtorEq, Nat.reduceLT, Nat.reduceEqDiff, Nat.reduceAdd, Nat.reduceMul, Nat.reduceLeDiff, Nat.reduceDiv, Nat.reduceMod, Nat.reduceSub, Nat.reduceBEq, List.length_map, rn_len, nts_len, cut_nts, List.length_take, List.length_drop] at hk; subst hk)
      | with_reducible refine vSeq_i ?_
      | with_reducible first | refine vRegion_i (by kernel_rfl) ?_ | refine Kv_i ?_
      | ((with_reducible apply vStrK_i); (focus (rfl; done)))
      | ((with_reducible refine imp_i ?_); intro _)
      | with_reducible first | refine Ks_n ?_ | refine Ks_r ?_ | refine Ks_e ?_ | refine Kl_e ?_ | refine Kx_n ?_ | refine Kl_r ?_ | refine vRet_i ?_ | refine vSkip_i ?_ | refine vExit_i ?_ | refine vBlock_i ?_ | refine Ks_p ?_ | refine Kl_p ?_ | refine blk_p ?_ | exact Kb_p | refine vGoto_i ?_ | refine vLabel_i ?_ | refine Ks_g ?_ | refine Kl_g ?_ | refine blk_g ?_ | refine jmp_g ?_ | refine jmp_n ?_ | refine jmp_r ?_ | refine nog_n ?_ | refine nog_r ?_ | refine blk_n ?_ | refine blk_r ?_ | refine blk_e ?_ | refine blk_o (by decide) ?_ | refine cp_t ?_ | refine cp_f ?_
      | ((with_reducible apply vCond_x); (focus (simp only [lv, E1, E2, E5, ET, T, orc_mv, noO_mv, mvB, orc_bx, noO_bx, bxB, orc_sx, noO_sx, sxB, fwd, fwds, inv, mOk, Int.toNat_natCast, Nat.div_one, Nat.mul_one, Int.reduceToNat, SB, List.not_mem_nil, ↓reduceIte, ne_eq, reduceCtorEq, Nat.reduceLT, Nat.reduceEqDiff, Nat.reduceAdd, Nat.reduceMul, Nat.reduceLeDiff, Nat.reduceDiv, Nat.reduceMod, Nat.reduceSub, Nat.reduceBEq, List.length_map, rn_len, nts_len, cut_nts, List.length_take, List.length_drop]; with_reducible first | exact Eq.refl (bo true) | exact Eq.refl (bo false))))
      | ((with_reducible refine And.intro ?_ ?_); (focus (try omega)))
    all_goals try (exfalso; omega)
    · rename_i h3 h4
      exact Kl_n ⟨(k + 1, true), (hJ.s0 (by omega) h4 he), by show I.length - (k + 1) < I.length - k; omega, by simp only [Int.natCast_add, Int.natCast_one]⟩
    · rename_i h3 h4 h5
      refine Kf_r ?_
      simp only [Try.f25, E4, E3, E2, E5, rawX, deadX, ET, T, SB, List.not_mem_nil, ↓reduceIte, ne_eq, reduceCtorEq, Nat.reduceLT, Nat.reduceEqDiff, Nat.reduceAdd, Nat.reduceMul, Nat.reduceLeDiff, Nat.reduceDiv, Nat.reduceMod, Nat.reduceSub, Nat.reduceBEq, List.length_map, rn_len, nts_len, cut_nts, List.length_take, List.length_drop]
      rw [if_pos (DirI.hit (by omega) h5)]
    · rename_i h3 h4 h5
      exact Kl_n ⟨(k + 1, true), (hJ.s1 (by omega) h4 h5 he), by show I.length - (k + 1) < I.length - k; omega, by simp only [Int.natCast_add, Int.natCast_one]⟩
    · rename_i h3
      rw [hJ.e0 (by omega), hJ.e2]
      simp only [Bool.false_eq_true, if_false, if_true]
      refine vLoop_s (fun z : Nat => [(.t 0, .t (sl (nts t))), (.t 12, .t (i64 sos)), (.t 13, .t (i64 ((z : Int) - 1)))]) (fun z => z ≤ a ∧ ahd t sos a = ahd t sos z) (fun z => z) a ⟨by omega, rfl⟩ rfl ?_
      rintro z ⟨hz, heq⟩
      cases z with
      | zero =>
        repeat' first
          | ((first
              | ((with_reducible refine vR_cons (by decide) ?_); generalize hk : KtR _ _ _ _ _ _ _ _ _ _ = k)
              | ((first
              | with_reducible refine vOps_cons' ?_) <;> generalize hk : Kt _ _ _ _ _ _ _ _ _ = k)) <;> (simp only [Try.f25, lv, E1, E2, E5, ET, T, orc_mv, noO_mv, mvB, orc_bx, noO_bx, bxB, orc_sx, noO_sx, sxB, fwd, fwds, inv, mOk, Int.toNat_natCast, Nat.div_one, Nat.mul_one, Int.reduceToNat, SB, List.not_mem_nil, ↓reduceIte, ne_eq, reduceCtorEq, Nat.reduceLT, Nat.reduceEqDiff, Nat.reduceAdd, Nat.reduceMul, Nat.reduceLeDiff, Nat.reduceDiv, Nat.reduceMod, Nat.reduceSub, Nat.reduceBEq, List.length_map, rn_len, nts_len, cut_nts, List.length_take, List.length_drop]; (try simp (disch := omega) only [wrap_in, Int.toNat_natCast, tv_rn, tv_nts]); subst hk))
          | with_reducible first | refine Kt_p ?_ | refine Kt_i (by kernel_rfl) ?_ | refine Kr_f (by kernel_rfl) ?_
          | (with_reducible refine Kr_t ?_; simp only [List.length_append, List.length_cons, List.length_nil, Nat.reduceAdd, Nat.reduceSub, List.drop_succ_cons, List.drop_zero])
          | with_reducible first | refine vR_nil ?_ | refine KtR_i (by kernel_rfl) ?_ | refine KrR_i (by kernel_rfl) ?_ | refine vR_skip (by decide) ?_
          | ((with_reducible refine vB_i ?_ ?_) <;> intro _ <;> (first | (exfalso; omega) | (exact absurd trivial ‹¬True›) | (try dsimp only [])))
          | ((with_reducible refine vOps_nil' ?_); refine Kr_i (by kernel_rfl) ?_; generalize hk : plain _ _ = G; simp only [lv, E3, E2, E5, rawX, deadX, SB, List.not_mem_nil, ↓reduceIte, ne_eq, reduceCtorEq, Nat.reduceLT, Nat.reduceEqDiff, Nat.reduceAdd, Nat.reduceMul, Nat.reduceLeDiff, Nat.reduceDiv, Nat.reduceMod, Nat.reduceSub, Nat.reduceBEq, List.length_map, rn_len, nts_len, cut_nts, List.length_take, List.length_drop] at hk; subst hk)
          | with_reducible refine vSeq_i ?_
          | with_reducible first | refine vRegion_i (by kernel_rfl) ?_ | refine Kv_i ?_
          | ((with_reducible apply vStrK_i); (focus (rfl; done)))
          | ((with_reducible refine imp_i ?_); intro _)
          | with_reducible first | refine Ks_n ?_ | refine Ks_r ?_ | refine Ks_e ?_ | refine Kl_e ?_ | refine Kx_n ?_ | refine Kl_r ?_ | refine vRet_i ?_ | refine vSkip_i ?_ | refine vExit_i ?_ | refine vBlock_i ?_ | refine Ks_p ?_ | refine Kl_p ?_ | refine blk_p ?_ | exact Kb_p | refine vGoto_i ?_ | refine vLabel_i ?_ | refine Ks_g ?_ | refine Kl_g ?_ | refine blk_g ?_ | refine jmp_g ?_ | refine jmp_n ?_ | refine jmp_r ?_ | refine nog_n ?_ | refine nog_r ?_ | refine blk_n ?_ | refine blk_r ?_ | refine blk_e ?_ | refine blk_o (by decide) ?_ | refine cp_t ?_ | refine cp_f ?_
          | ((with_reducible apply vCond_x); (focus (simp only [lv, E1, E2, E5, ET, T, orc_mv, noO_mv, mvB, orc_bx, noO_bx, bxB, orc_sx, noO_sx, sxB, fwd, fwds, inv, mOk, Int.toNat_natCast, Nat.div_one, Nat.mul_one, Int.reduceToNat, SB, List.not_mem_nil, ↓reduceIte, ne_eq, reduceCtorEq, Nat.reduceLT, Nat.reduceEqDiff, Nat.reduceAdd, Nat.reduceMul, Nat.reduceLeDiff, Nat.reduceDiv, Nat.reduceMod, Nat.reduceSub, Nat.reduceBEq, List.length_map, rn_len, nts_len, cut_nts, List.length_take, List.length_drop]; with_reducible first | exact Eq.refl (bo true) | exact Eq.refl (bo false))))
          | ((with_reducible refine And.intro ?_ ?_); (focus (try omega)))
        all_goals try (exfalso; omega)
        refine Kf_r ?_
        simp only [Try.f25, E4, E3, E2, E5, rawX, deadX, ET, T, SB, List.not_mem_nil, ↓reduceIte, ne_eq, reduceCtorEq, Nat.reduceLT, Nat.reduceEqDiff, Nat.reduceAdd, Nat.reduceMul, Nat.reduceLeDiff, Nat.reduceDiv, Nat.reduceMod, Nat.reduceSub, Nat.reduceBEq, List.length_map, rn_len, nts_len, cut_nts, List.length_take, List.length_drop, heq, ahd]
      | succ m =>
        rw [show (((m + 1 : Nat) : Int) - 1) = (m : Int) by omega]
        repeat' first
          | ((first
              | ((with_reducible refine vR_cons (by decide) ?_); generalize hk : KtR _ _ _ _ _ _ _ _ _ _ = k)
              | ((first
              | with_reducible refine vOps_cons' ?_
              | ((with_reducible apply orc_i); (focus (exact side_ok _; done)))) <;> generalize hk : Kt _ _ _ _ _ _ _ _ _ = k)) <;> (simp only [Try.f25, lv, E1, E2, E5, ET, T, orc_mv, noO_mv, mvB, orc_bx, noO_bx, bxB, orc_sx, noO_sx, sxB, fwd, fwds, inv, mOk, Int.toNat_natCast, Nat.div_one, Nat.mul_one, Int.reduceToNat, SB, List.not_mem_nil, ↓reduceIte, ne_eq, reduceCtorEq, Nat.reduceLT, Nat.reduceEqDiff, Nat.reduceAdd, Nat.reduceMul, Nat.reduceLeDiff, Nat.reduceDiv, Nat.reduceMod, Nat.reduceSub, Nat.reduceBEq, List.length_map, rn_len, nts_len, cut_nts, List.length_take, List.length_drop]; (try simp (disch := omega) only [wrap_in, Int.toNat_natCast, tv_rn, tv_nts]); subst hk))
          | with_reducible first | refine Kt_p ?_ | refine Kt_i (by kernel_rfl) ?_ | refine Kr_f (by kernel_rfl) ?_
          | (with_reducible refine Kr_t ?_; simp only [List.length_append, List.length_cons, List.length_nil, Nat.reduceAdd, Nat.reduceSub, List.drop_succ_cons, List.drop_zero])
          | with_reducible first | refine vR_nil ?_ | refine KtR_i (by kernel_rfl) ?_ | refine KrR_i (by kernel_rfl) ?_ | refine vR_skip (by decide) ?_
          | ((with_reducible refine vB_i ?_ ?_) <;> intro _ <;> (first | (exfalso; omega) | (exact absurd trivial ‹¬True›) | (try dsimp only [])))
          | ((with_reducible refine vOps_nil' ?_); refine Kr_i (by kernel_rfl) ?_; generalize hk : plain _ _ = G; simp only [lv, E3, E2, E5, rawX, deadX, SB, List.not_mem_nil, ↓reduceIte, ne_eq, reduceCtorEq, Nat.reduceLT, Nat.reduceEqDiff, Nat.reduceAdd, Nat.reduceMul, Nat.reduceLeDiff, Nat.reduceDiv, Nat.reduceMod, Nat.reduceSub, Nat.reduceBEq, List.length_map, rn_len, nts_len, cut_nts, List.length_take, List.length_drop] at hk; subst hk)
          | with_reducible refine vSeq_i ?_
          | with_reducible first | refine vRegion_i (by kernel_rfl) ?_ | refine Kv_i ?_
          | ((with_reducible apply vStrK_i); (focus (rfl; done)))
          | ((with_reducible refine imp_i ?_); intro _)
          | with_reducible first | refine Ks_n ?_ | refine Ks_r ?_ | refine Ks_e ?_ | refine Kl_e ?_ | refine Kx_n ?_ | refine Kl_r ?_ | refine vRet_i ?_ | refine vSkip_i ?_ | refine vExit_i ?_ | refine vBlock_i ?_ | refine Ks_p ?_ | refine Kl_p ?_ | refine blk_p ?_ | exact Kb_p | refine vGoto_i ?_ | refine vLabel_i ?_ | refine Ks_g ?_ | refine Kl_g ?_ | refine blk_g ?_ | refine jmp_g ?_ | refine jmp_n ?_ | refine jmp_r ?_ | refine nog_n ?_ | refine nog_r ?_ | refine blk_n ?_ | refine blk_r ?_ | refine blk_e ?_ | refine blk_o (by decide) ?_ | refine cp_t ?_ | refine cp_f ?_
          | ((with_reducible apply vCond_x); (focus (simp only [lv, E1, E2, E5, ET, T, orc_mv, noO_mv, mvB, orc_bx, noO_bx, bxB, orc_sx, noO_sx, sxB, fwd, fwds, inv, mOk, Int.toNat_natCast, Nat.div_one, Nat.mul_one, Int.reduceToNat, SB, List.not_mem_nil, ↓reduceIte, ne_eq, reduceCtorEq, Nat.reduceLT, Nat.reduceEqDiff, Nat.reduceAdd, Nat.reduceMul, Nat.reduceLeDiff, Nat.reduceDiv, Nat.reduceMod, Nat.reduceSub, Nat.reduceBEq, List.length_map, rn_len, nts_len, cut_nts, List.length_take, List.length_drop]; with_reducible first | exact Eq.refl (bo true) | exact Eq.refl (bo false))))
          | ((with_reducible refine And.intro ?_ ?_); (focus (try omega)))
        all_goals try (exfalso; omega)
        · rename_i h5 h6
          exact Kl_n ⟨m, ⟨by omega, by rw [heq, ahd, if_neg (fun q => q h6)]⟩, by omega, rfl⟩
        · rename_i h5 h6
          refine Kf_r ?_
          simp only [Try.f25, E4, E3, E2, E5, rawX, deadX, ET, T, SB, List.not_mem_nil, ↓reduceIte, ne_eq, reduceCtorEq, Nat.reduceLT, Nat.reduceEqDiff, Nat.reduceAdd, Nat.reduceMul, Nat.reduceLeDiff, Nat.reduceDiv, Nat.reduceMod, Nat.reduceSub, Nat.reduceBEq, List.length_map, rn_len, nts_len, cut_nts, List.length_take, List.length_drop]
          rw [heq, ahd, if_pos h6]
end Go.Proofs.YtncabdcaamkhiaaG
