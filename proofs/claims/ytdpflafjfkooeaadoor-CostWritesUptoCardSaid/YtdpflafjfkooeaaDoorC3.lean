import Derived.Test.YtdpflafjfkooeaaDoorC2
import Derived.Test.YtdpflafjfkooeaaDoorA9
namespace Go.Proofs.YtdpflafjfkooeaaDoorG
open Go Go.RowKit Go.Proofs
set_option linter.unusedSimpArgs false
set_option linter.unusedVariables false
/-- A text's bytes; none, if one of its numbers is no scalar value. -/
def encV (l : List Int) : List Int := if scal l then encF l else []
theorem encV_le (l : List Int) : (encV l).length ≤ 4 * l.length := by
  unfold encV; split
  · exact encF_le l
  · simp
theorem encR_v (l : List Int) : encR l = [(5, 1, bs (encV l))] := rfl
def pieceF (l : List Int) : List Int := numB ((encV l).length : Int) ++ encV l
theorem numB_len (n : Int) : (numB n).length = 4 := rfl
theorem pieceF_le (l : List Int) : (pieceF l).length ≤ 4 + 4 * l.length := by
  have := encV_le l
  simp only [pieceF, List.length_append, numB_len]; omega
set_option maxRecDepth 10000 in
theorem piece_ok (b l : List Int) (h : R32s l) (hl : l.length ≤ 2000000) (hb : b.length ≤ 130000000000000) : CallM Tryd.prog 37 (5, 1, bs b) [sl (rn l)] (.p (.one (.sr 0))) [(5, 1, bs (b ++ pieceF l))] := by
  have hv := encV_le l
  refine fn_okM' T_ok (orc_ok _) mixed Tryd.func37 rfl (by kernel_rfl) (lv [[0, 1], [0, 5], [4]]) 20 rfl (by simp) rfl ?_
  simp only [argsG, Nat.zero_add, Nat.reduceAdd]
  repeat' first
    | ((with_reducible refine vOps_cons' ?_)
       generalize hk : Kt _ _ _ _ _ _ _ _ _ = k
       simp only [Tryd.f37, lv, E1, E2, E5, ET, T, orc_mv, noO_mv, mvB, orc_bx, noO_bx, bxB, fwd, fwds, inv, mOk, Int.toNat_natCast, Nat.div_one, Nat.mul_one, Int.reduceToNat, List.not_mem_nil, true_or, or_true, true_and, and_true, decide_true, decide_false, Bool.and_self, Bool.or_self, ↓reduceIte, ne_eq, not_false_eq_true, not_true_eq_false, reduceCtorEq, Nat.reduceLT, Nat.reduceEqDiff, Nat.reduceAdd, Nat.reduceMul, Nat.reduceLeDiff, Nat.reduceDiv, Nat.reduceMod, Nat.reduceSub, Nat.reduceBEq, List.length_map, bs_len, rn_len, chs_len, chs_cnt, List.length_append, List.length_cons, List.length_nil, Ch.x, Opn.x]
       try simp (disch := omega) only [wrap_in, Int.toNat_natCast, tv_rn, tv_ch0, tv_ch1, tv_ch2]
       subst hk)
    | with_reducible refine Kt_p ?_
    | with_reducible refine Kt_i (by kernel_rfl) ?_
    | with_reducible refine Kr_f (by kernel_rfl) ?_
    | (with_reducible refine Kr_t ?_; simp only [List.length_append, List.length_cons, List.length_nil, Nat.reduceAdd, Nat.reduceSub, List.drop_succ_cons, List.drop_zero])
    | with_reducible refine vR_nil ?_
    | with_reducible refine KtR_i (by kernel_rfl) ?_
    | with_reducible refine KrR_i (by kernel_rfl) ?_
    | with_reducible refine vR_skip (by decide) ?_
    | ((with_reducible refine vR_cons (by decide) ?_)
       generalize hk : KtR _ _ _ _ _ _ _ _ _ _ = k
       simp only [Tryd.f37, lv, E1, E2, E5, ET, T, orc_mv, noO_mv, mvB, orc_bx, noO_bx, bxB, fwd, fwds, inv, mOk, Int.toNat_natCast, Nat.div_one, Nat.mul_one, Int.reduceToNat, List.not_mem_nil, true_or, or_true, true_and, and_true, decide_true, decide_false, Bool.and_self, Bool.or_self, ↓reduceIte, ne_eq, not_false_eq_true, not_true_eq_false, reduceCtorEq, Nat.reduceLT, Nat.reduceEqDiff, Nat.reduceAdd, Nat.reduceMul, Nat.reduceLeDiff, Nat.reduceDiv, Nat.reduceMod, Nat.reduceSub, Nat.reduceBEq, List.length_map, bs_len, rn_len, chs_len, chs_cnt, List.length_append, List.length_cons, List.length_nil, Ch.x, Opn.x]
       try simp (disch := omega) only [wrap_in, Int.toNat_natCast, tv_rn, tv_ch0, tv_ch1, tv_ch2]
       subst hk)
    | ((with_reducible refine vB_i ?_ ?_) <;> intro _ <;> (first | (exfalso; omega) | (exact absurd trivial ‹¬True›) | (try dsimp only [])))
    | ((with_reducible refine vOps_nil' ?_); refine Kr_i (by kernel_rfl) ?_; generalize hk : plain _ _ = G; simp only [lv, E3, E2, E5, rawX, deadX, List.not_mem_nil, true_or, or_true, true_and, and_true, decide_true, decide_false, Bool.and_self, Bool.or_self, ↓reduceIte, ne_eq, not_false_eq_true, not_true_eq_false, reduceCtorEq, Nat.reduceLT, Nat.reduceEqDiff, Nat.reduceAdd, Nat.reduceMul, Nat.reduceLeDiff, Nat.reduceDiv, Nat.reduceMod, Nat.reduceSub, Nat.reduceBEq, List.length_map, bs_len, rn_len, chs_len, chs_cnt, List.length_append, List.length_cons, List.length_nil, Ch.x, Opn.x] at hk; subst hk)
    | with_reducible refine vSeq_i ?_
    | with_reducible refine vRegion_i (by kernel_rfl) ?_
    | with_reducible refine Kv_i ?_
    | ((with_reducible apply vStrK_i); (focus (rfl; done)))
    | ((with_reducible refine imp_i ?_); intro _)
    | with_reducible refine Ks_n ?_
    | with_reducible refine Ks_r ?_
    | with_reducible refine Ks_e ?_
    | with_reducible refine Kl_e ?_
    | with_reducible refine Kx_n ?_
    | with_reducible refine Kl_r ?_
    | with_reducible refine vRet_i ?_
    | with_reducible refine vSkip_i ?_
    | with_reducible refine vExit_i ?_
    | with_reducible refine vBlock_i ?_
    | with_reducible refine Ks_p ?_
    | with_reducible refine Kl_p ?_
    | with_reducible refine blk_p ?_
    | with_reducible exact Kb_p
    | with_reducible refine vGoto_i ?_
    | with_reducible refine vLabel_i ?_
    | with_reducible refine Ks_g ?_
    | with_reducible refine Kl_g ?_
    | with_reducible refine blk_g ?_
    | with_reducible refine jmp_g ?_
    | with_reducible refine jmp_n ?_
    | with_reducible refine jmp_r ?_
    | with_reducible refine nog_n ?_
    | with_reducible refine nog_r ?_
    | with_reducible refine blk_n ?_
    | with_reducible refine blk_r ?_
    | with_reducible refine blk_e ?_
    | with_reducible refine blk_o (by decide) ?_
    | ((with_reducible refine vCond_t ?_ ?_); (focus (simp only [lv, E1, E2, E5, ET, T, orc_mv, noO_mv, mvB, orc_bx, noO_bx, bxB, fwd, fwds, inv, mOk, Int.toNat_natCast, Nat.div_one, Nat.mul_one, Int.reduceToNat, List.not_mem_nil, true_or, or_true, true_and, and_true, decide_true, decide_false, Bool.and_self, Bool.or_self, ↓reduceIte, ne_eq, not_false_eq_true, not_true_eq_false, reduceCtorEq, Nat.reduceLT, Nat.reduceEqDiff, Nat.reduceAdd, Nat.reduceMul, Nat.reduceLeDiff, Nat.reduceDiv, Nat.reduceMod, Nat.reduceSub, Nat.reduceBEq, List.length_map, bs_len, rn_len, chs_len, chs_cnt, List.length_append, List.length_cons, List.length_nil, Ch.x, Opn.x]; done)))
    | ((with_reducible refine vCond_f ?_ ?_); (focus (simp only [lv, E1, E2, E5, ET, T, orc_mv, noO_mv, mvB, orc_bx, noO_bx, bxB, fwd, fwds, inv, mOk, Int.toNat_natCast, Nat.div_one, Nat.mul_one, Int.reduceToNat, List.not_mem_nil, true_or, or_true, true_and, and_true, decide_true, decide_false, Bool.and_self, Bool.or_self, ↓reduceIte, ne_eq, not_false_eq_true, not_true_eq_false, reduceCtorEq, Nat.reduceLT, Nat.reduceEqDiff, Nat.reduceAdd, Nat.reduceMul, Nat.reduceLeDiff, Nat.reduceDiv, Nat.reduceMod, Nat.reduceSub, Nat.reduceBEq, List.length_map, bs_len, rn_len, chs_len, chs_cnt, List.length_append, List.length_cons, List.length_nil, Ch.x, Opn.x]; done)))
    | ((with_reducible refine And.intro ?_ ?_); (focus (try omega)))
    | ((with_reducible apply orc_i); (focus ((have hq := encode_ok l h hl; simp only [encX, encR_v] at hq; exact hq); done)); (generalize hk : Kt _ _ _ _ _ _ _ _ _ = k; simp only [lv, E1, E2, E5, ET, T, orc_mv, noO_mv, mvB, orc_bx, noO_bx, bxB, fwd, fwds, inv, mOk, Int.toNat_natCast, Nat.div_one, Nat.mul_one, Int.reduceToNat, List.not_mem_nil, true_or, or_true, true_and, and_true, decide_true, decide_false, Bool.and_self, Bool.or_self, ↓reduceIte, ne_eq, not_false_eq_true, not_true_eq_false, reduceCtorEq, Nat.reduceLT, Nat.reduceEqDiff, Nat.reduceAdd, Nat.reduceMul, Nat.reduceLeDiff, Nat.reduceDiv, Nat.reduceMod, Nat.reduceSub, Nat.reduceBEq, List.length_map, bs_len, rn_len, chs_len, chs_cnt, List.length_append, List.length_cons, List.length_nil, Ch.x, Opn.x]; (try simp (disch := omega) only [wrap_in, Int.toNat_natCast, tv_rn, tv_ch0, tv_ch1, tv_ch2]); subst hk))
    | ((with_reducible apply orc_m); (focus (exact number_ok _ _ (by omega); done)); (generalize hk : Kt _ _ _ _ _ _ _ _ _ = k; simp only [lv, E1, E2, E5, ET, T, orc_mv, noO_mv, mvB, orc_bx, noO_bx, bxB, fwd, fwds, inv, mOk, Int.toNat_natCast, Nat.div_one, Nat.mul_one, Int.reduceToNat, List.not_mem_nil, true_or, or_true, true_and, and_true, decide_true, decide_false, Bool.and_self, Bool.or_self, ↓reduceIte, ne_eq, not_false_eq_true, not_true_eq_false, reduceCtorEq, Nat.reduceLT, Nat.reduceEqDiff, Nat.reduceAdd, Nat.reduceMul, Nat.reduceLeDiff, Nat.reduceDiv, Nat.reduceMod, Nat.reduceSub, Nat.reduceBEq, List.length_map, bs_len, rn_len, chs_len, chs_cnt, List.length_append, List.length_cons, List.length_nil, Ch.x, Opn.x]; (try simp (disch := omega) only [wrap_in, Int.toNat_natCast, tv_rn, tv_ch0, tv_ch1, tv_ch2]); subst hk))
  all_goals try (simp only [numB_len]; omega)
  refine Kf_r ?_
  simp only [Tryd.f37, E4, E3, E2, E5, rawX, deadX, ET, T, List.not_mem_nil, true_or, or_true, true_and, and_true, decide_true, decide_false, Bool.and_self, Bool.or_self, ↓reduceIte, ne_eq, not_false_eq_true, not_true_eq_false, reduceCtorEq, Nat.reduceLT, Nat.reduceEqDiff, Nat.reduceAdd, Nat.reduceMul, Nat.reduceLeDiff, Nat.reduceDiv, Nat.reduceMod, Nat.reduceSub, Nat.reduceBEq, List.length_map, bs_len, rn_len, chs_len, chs_cnt, List.length_append, List.length_cons, List.length_nil, Ch.x, Opn.x, pieceF, bs_app, List.append_assoc]
def chF (c : Ch) : List Int := numB c.at_ ++ (pieceF c.gone ++ pieceF c.came)
def chsF (l : List Ch) : List Int := ((l.length : Int) % 256) :: l.flatMap chF
theorem chF_le {c : Ch} (h : c.small) : (chF c).length ≤ 16000012 := by
  have h1 := pieceF_le c.gone; have h2 := pieceF_le c.came; have := h.1; have := h.2
  simp only [chF, List.length_append, numB_len]; omega
theorem flat_le {l : List Ch} (h : ∀ c ∈ l, c.small) : (l.flatMap chF).length ≤ l.length * 16000012 := by
  induction l with
  | nil => simp
  | cons c l ih =>
    have h1 := ih fun c hc => h c (by simp [hc])
    have h2 := chF_le (h c (by simp))
    simp only [List.flatMap_cons, List.length_append, List.length_cons]; omega
theorem flat_1 {l : List Ch} {k : Nat} (h : k < l.length) : (l.take (k + 1)).flatMap chF = (l.take k).flatMap chF ++ chF (l.getD k noCh) := by
  have e : l.take (k + 1) = l.take k ++ [l.getD k noCh] := by rw [List.take_add_one]; simp [List.getD, List.getElem?_eq_getElem h]
  rw [e, List.flatMap_append]
  simp only [List.flatMap_cons, List.flatMap_nil, List.append_nil]
set_option maxRecDepth 10000 in
set_option maxHeartbeats 4000000 in
theorem wchanges_ok (b : List Int) (l : List Ch) (hl : l.length ≤ 2000000) (hc : ∀ c ∈ l, c.small) (hr : ∀ c ∈ l, R32s c.gone ∧ R32s c.came) (hb : b.length ≤ 70000000000000) : CallM Tryd.prog 36 (5, 1, bs b) [sln 3 (chs l)] (.p (.one (.sr 0))) [(5, 1, bs (b ++ chsF l))] := by
  refine fn_okM' T_ok (orc_ok _) mixed Tryd.func36 rfl (by kernel_rfl) (lv [[0, 1], [0, 1], [0, 13, 14, 15], [0, 13, 14, 15, 16], [0, 6, 13, 14, 15], [0, 13, 14, 15], [0, 13, 14, 15], [4]]) 31 rfl (by simp) rfl ?_
  simp only [argsG, Nat.zero_add, Nat.reduceAdd]
  repeat' first
    | ((with_reducible refine vOps_cons' ?_)
       generalize hk : Kt _ _ _ _ _ _ _ _ _ = k
       simp only [Tryd.f36, lv, E1, E2, E5, ET, T, orc_mv, noO_mv, mvB, orc_bx, noO_bx, bxB, fwd, fwds, inv, mOk, Int.toNat_natCast, Nat.div_one, Nat.mul_one, Int.reduceToNat, List.not_mem_nil, true_or, or_true, true_and, and_true, decide_true, decide_false, Bool.and_self, Bool.or_self, ↓reduceIte, ne_eq, not_false_eq_true, not_true_eq_false, reduceCtorEq, Nat.reduceLT, Nat.reduceEqDiff, Nat.reduceAdd, Nat.reduceMul, Nat.reduceLeDiff, Nat.reduceDiv, Nat.reduceMod, Nat.reduceSub, Nat.reduceBEq, List.length_map, bs_len, rn_len, chs_len, chs_cnt, List.length_append, List.length_cons, List.length_nil, Ch.x, Opn.x]
       try simp (disch := omega) only [wrap_in, Int.toNat_natCast, tv_rn, tv_ch0, tv_ch1, tv_ch2]
       subst hk)
    | with_reducible refine Kt_p ?_
    | with_reducible refine Kt_i (by kernel_rfl) ?_
    | with_reducible refine Kr_f (by kernel_rfl) ?_
    | (with_reducible refine Kr_t ?_; simp only [List.length_append, List.length_cons, List.length_nil, Nat.reduceAdd, Nat.reduceSub, List.drop_succ_cons, List.drop_zero])
    | with_reducible refine vR_nil ?_
    | with_reducible refine KtR_i (by kernel_rfl) ?_
    | with_reducible refine KrR_i (by kernel_rfl) ?_
    | with_reducible refine vR_skip (by decide) ?_
    | ((with_reducible refine vR_cons (by decide) ?_)
       generalize hk : KtR _ _ _ _ _ _ _ _ _ _ = k
       simp only [Tryd.f36, lv, E1, E2, E5, ET, T, orc_mv, noO_mv, mvB, orc_bx, noO_bx, bxB, fwd, fwds, inv, mOk, Int.toNat_natCast, Nat.div_one, Nat.mul_one, Int.reduceToNat, List.not_mem_nil, true_or, or_true, true_and, and_true, decide_true, decide_false, Bool.and_self, Bool.or_self, ↓reduceIte, ne_eq, not_false_eq_true, not_true_eq_false, reduceCtorEq, Nat.reduceLT, Nat.reduceEqDiff, Nat.reduceAdd, Nat.reduceMul, Nat.reduceLeDiff, Nat.reduceDiv, Nat.reduceMod, Nat.reduceSub, Nat.reduceBEq, List.length_map, bs_len, rn_len, chs_len, chs_cnt, List.length_append, List.length_cons, List.length_nil, Ch.x, Opn.x]
       try simp (disch := omega) only [wrap_in, Int.toNat_natCast, tv_rn, tv_ch0, tv_ch1, tv_ch2]
       subst hk)
    | ((with_reducible refine vB_i ?_ ?_) <;> intro _ <;> (first | (exfalso; omega) | (exact absurd trivial ‹¬True›) | (try dsimp only [])))
    | ((with_reducible refine vOps_nil' ?_); refine Kr_i (by kernel_rfl) ?_; generalize hk : plain _ _ = G; simp only [lv, E3, E2, E5, rawX, deadX, List.not_mem_nil, true_or, or_true, true_and, and_true, decide_true, decide_false, Bool.and_self, Bool.or_self, ↓reduceIte, ne_eq, not_false_eq_true, not_true_eq_false, reduceCtorEq, Nat.reduceLT, Nat.reduceEqDiff, Nat.reduceAdd, Nat.reduceMul, Nat.reduceLeDiff, Nat.reduceDiv, Nat.reduceMod, Nat.reduceSub, Nat.reduceBEq, List.length_map, bs_len, rn_len, chs_len, chs_cnt, List.length_append, List.length_cons, List.length_nil, Ch.x, Opn.x] at hk; subst hk)
    | with_reducible refine vSeq_i ?_
    | with_reducible refine vRegion_i (by kernel_rfl) ?_
    | with_reducible refine Kv_i ?_
    | ((with_reducible apply vStrK_i); (focus (rfl; done)))
    | ((with_reducible refine imp_i ?_); intro _)
    | with_reducible refine Ks_n ?_
    | with_reducible refine Ks_r ?_
    | with_reducible refine Ks_e ?_
    | with_reducible refine Kl_e ?_
    | with_reducible refine Kx_n ?_
    | with_reducible refine Kl_r ?_
    | with_reducible refine vRet_i ?_
    | with_reducible refine vSkip_i ?_
    | with_reducible refine vExit_i ?_
    | with_reducible refine vBlock_i ?_
    | with_reducible refine Ks_p ?_
    | with_reducible refine Kl_p ?_
    | with_reducible refine blk_p ?_
    | with_reducible exact Kb_p
    | with_reducible refine vGoto_i ?_
    | with_reducible refine vLabel_i ?_
    | with_reducible refine Ks_g ?_
    | with_reducible refine Kl_g ?_
    | with_reducible refine blk_g ?_
    | with_reducible refine jmp_g ?_
    | with_reducible refine jmp_n ?_
    | with_reducible refine jmp_r ?_
    | with_reducible refine nog_n ?_
    | with_reducible refine nog_r ?_
    | with_reducible refine blk_n ?_
    | with_reducible refine blk_r ?_
    | with_reducible refine blk_e ?_
    | with_reducible refine blk_o (by decide) ?_
    | ((with_reducible refine vCond_t ?_ ?_); (focus (simp only [lv, E1, E2, E5, ET, T, orc_mv, noO_mv, mvB, orc_bx, noO_bx, bxB, fwd, fwds, inv, mOk, Int.toNat_natCast, Nat.div_one, Nat.mul_one, Int.reduceToNat, List.not_mem_nil, true_or, or_true, true_and, and_true, decide_true, decide_false, Bool.and_self, Bool.or_self, ↓reduceIte, ne_eq, not_false_eq_true, not_true_eq_false, reduceCtorEq, Nat.reduceLT, Nat.reduceEqDiff, Nat.reduceAdd, Nat.reduceMul, Nat.reduceLeDiff, Nat.reduceDiv, Nat.reduceMod, Nat.reduceSub, Nat.reduceBEq, List.length_map, bs_len, rn_len, chs_len, chs_cnt, List.length_append, List.length_cons, List.length_nil, Ch.x, Opn.x]; done)))
    | ((with_reducible refine vCond_f ?_ ?_); (focus (simp only [lv, E1, E2, E5, ET, T, orc_mv, noO_mv, mvB, orc_bx, noO_bx, bxB, fwd, fwds, inv, mOk, Int.toNat_natCast, Nat.div_one, Nat.mul_one, Int.reduceToNat, List.not_mem_nil, true_or, or_true, true_and, and_true, decide_true, decide_false, Bool.and_self, Bool.or_self, ↓reduceIte, ne_eq, not_false_eq_true, not_true_eq_false, reduceCtorEq, Nat.reduceLT, Nat.reduceEqDiff, Nat.reduceAdd, Nat.reduceMul, Nat.reduceLeDiff, Nat.reduceDiv, Nat.reduceMod, Nat.reduceSub, Nat.reduceBEq, List.length_map, bs_len, rn_len, chs_len, chs_cnt, List.length_append, List.length_cons, List.length_nil, Ch.x, Opn.x]; done)))
    | ((with_reducible refine And.intro ?_ ?_); (focus (try omega)))
  all_goals try omega
  refine vLoop_s (fun k : Nat => [(.t 0, .t (.p (.one (.sr 0)))), (.t 13, .t (sln 3 (chs l))), (.t 14, .t (i64 l.length)), (.t 15, .t (i64 k)), (.row 0, .row 5 1 (bs (b ++ (((l.length : Int) % 256) :: (l.take k).flatMap chF))))]) (fun k => k ≤ l.length) (fun k => l.length - k) 0 (by omega) (by rw [u8w, bs_app]; rfl) ?_
  intro k hk
  have hf : ((l.take k).flatMap chF).length ≤ k * 16000012 := by
    have := flat_le (l := l.take k) fun c h => hc c (List.mem_of_mem_take h)
    rw [List.length_take] at this
    exact Nat.le_trans this (Nat.mul_le_mul_right _ (by omega))
  have hp1 := fun h : k < l.length => pieceF_le (l.getD k noCh).gone
  have hp2 := fun h : k < l.length => pieceF_le (l.getD k noCh).came
  have hs := fun h : k < l.length => hc (l.getD k noCh) (mem_getD h)
  have hq := fun h : k < l.length => hr (l.getD k noCh) (mem_getD h)
  repeat' first
    | ((with_reducible refine vOps_cons' ?_)
       generalize hk : Kt _ _ _ _ _ _ _ _ _ = k
       simp only [Tryd.f36, lv, E1, E2, E5, ET, T, orc_mv, noO_mv, mvB, orc_bx, noO_bx, bxB, fwd, fwds, inv, mOk, Int.toNat_natCast, Nat.div_one, Nat.mul_one, Int.reduceToNat, List.not_mem_nil, true_or, or_true, true_and, and_true, decide_true, decide_false, Bool.and_self, Bool.or_self, ↓reduceIte, ne_eq, not_false_eq_true, not_true_eq_false, reduceCtorEq, Nat.reduceLT, Nat.reduceEqDiff, Nat.reduceAdd, Nat.reduceMul, Nat.reduceLeDiff, Nat.reduceDiv, Nat.reduceMod, Nat.reduceSub, Nat.reduceBEq, List.length_map, bs_len, rn_len, chs_len, chs_cnt, List.length_append, List.length_cons, List.length_nil, Ch.x, Opn.x]
       try simp (disch := omega) only [wrap_in, Int.toNat_natCast, tv_rn, tv_ch0, tv_ch1, tv_ch2]
       subst hk)
    | with_reducible refine Kt_p ?_
    | with_reducible refine Kt_i (by kernel_rfl) ?_
    | with_reducible refine Kr_f (by kernel_rfl) ?_
    | (with_reducible refine Kr_t ?_; simp only [List.length_append, List.length_cons, List.length_nil, Nat.reduceAdd, Nat.reduceSub, List.drop_succ_cons, List.drop_zero])
    | with_reducible refine vR_nil ?_
    | with_reducible refine KtR_i (by kernel_rfl) ?_
    | with_reducible refine KrR_i (by kernel_rfl) ?_
    | with_reducible refine vR_skip (by decide) ?_
    | ((with_reducible refine vR_cons (by decide) ?_)
       generalize hk : KtR _ _ _ _ _ _ _ _ _ _ = k
       simp only [Tryd.f36, lv, E1, E2, E5, ET, T, orc_mv, noO_mv, mvB, orc_bx, noO_bx, bxB, fwd, fwds, inv, mOk, Int.toNat_natCast, Nat.div_one, Nat.mul_one, Int.reduceToNat, List.not_mem_nil, true_or, or_true, true_and, and_true, decide_true, decide_false, Bool.and_self, Bool.or_self, ↓reduceIte, ne_eq, not_false_eq_true, not_true_eq_false, reduceCtorEq, Nat.reduceLT, Nat.reduceEqDiff, Nat.reduceAdd, Nat.reduceMul, Nat.reduceLeDiff, Nat.reduceDiv, Nat.reduceMod, Nat.reduceSub, Nat.reduceBEq, List.length_map, bs_len, rn_len, chs_len, chs_cnt, List.length_append, List.length_cons, List.length_nil, Ch.x, Opn.x]
       try simp (disch := omega) only [wrap_in, Int.toNat_natCast, tv_rn, tv_ch0, tv_ch1, tv_ch2]
       subst hk)
    | ((with_reducible refine vB_i ?_ ?_) <;> intro _ <;> (first | (exfalso; omega) | (exact absurd trivial ‹¬True›) | (try dsimp only [])))
    | ((with_reducible refine vOps_nil' ?_); refine Kr_i (by kernel_rfl) ?_; generalize hk : plain _ _ = G; simp only [lv, E3, E2, E5, rawX, deadX, List.not_mem_nil, true_or, or_true, true_and, and_true, decide_true, decide_false, Bool.and_self, Bool.or_self, ↓reduceIte, ne_eq, not_false_eq_true, not_true_eq_false, reduceCtorEq, Nat.reduceLT, Nat.reduceEqDiff, Nat.reduceAdd, Nat.reduceMul, Nat.reduceLeDiff, Nat.reduceDiv, Nat.reduceMod, Nat.reduceSub, Nat.reduceBEq, List.length_map, bs_len, rn_len, chs_len, chs_cnt, List.length_append, List.length_cons, List.length_nil, Ch.x, Opn.x] at hk; subst hk)
    | with_reducible refine vSeq_i ?_
    | with_reducible refine vRegion_i (by kernel_rfl) ?_
    | with_reducible refine Kv_i ?_
    | ((with_reducible apply vStrK_i); (focus (rfl; done)))
    | ((with_reducible refine imp_i ?_); intro _)
    | with_reducible refine Ks_n ?_
    | with_reducible refine Ks_r ?_
    | with_reducible refine Ks_e ?_
    | with_reducible refine Kl_e ?_
    | with_reducible refine Kx_n ?_
    | with_reducible refine Kl_r ?_
    | with_reducible refine vRet_i ?_
    | with_reducible refine vSkip_i ?_
    | with_reducible refine vExit_i ?_
    | with_reducible refine vBlock_i ?_
    | with_reducible refine Ks_p ?_
    | with_reducible refine Kl_p ?_
    | with_reducible refine blk_p ?_
    | with_reducible exact Kb_p
    | with_reducible refine vGoto_i ?_
    | with_reducible refine vLabel_i ?_
    | with_reducible refine Ks_g ?_
    | with_reducible refine Kl_g ?_
    | with_reducible refine blk_g ?_
    | with_reducible refine jmp_g ?_
    | with_reducible refine jmp_n ?_
    | with_reducible refine jmp_r ?_
    | with_reducible refine nog_n ?_
    | with_reducible refine nog_r ?_
    | with_reducible refine blk_n ?_
    | with_reducible refine blk_r ?_
    | with_reducible refine blk_e ?_
    | with_reducible refine blk_o (by decide) ?_
    | ((with_reducible refine vCond_t ?_ ?_); (focus (simp only [lv, E1, E2, E5, ET, T, orc_mv, noO_mv, mvB, orc_bx, noO_bx, bxB, fwd, fwds, inv, mOk, Int.toNat_natCast, Nat.div_one, Nat.mul_one, Int.reduceToNat, List.not_mem_nil, true_or, or_true, true_and, and_true, decide_true, decide_false, Bool.and_self, Bool.or_self, ↓reduceIte, ne_eq, not_false_eq_true, not_true_eq_false, reduceCtorEq, Nat.reduceLT, Nat.reduceEqDiff, Nat.reduceAdd, Nat.reduceMul, Nat.reduceLeDiff, Nat.reduceDiv, Nat.reduceMod, Nat.reduceSub, Nat.reduceBEq, List.length_map, bs_len, rn_len, chs_len, chs_cnt, List.length_append, List.length_cons, List.length_nil, Ch.x, Opn.x]; done)))
    | ((with_reducible refine vCond_f ?_ ?_); (focus (simp only [lv, E1, E2, E5, ET, T, orc_mv, noO_mv, mvB, orc_bx, noO_bx, bxB, fwd, fwds, inv, mOk, Int.toNat_natCast, Nat.div_one, Nat.mul_one, Int.reduceToNat, List.not_mem_nil, true_or, or_true, true_and, and_true, decide_true, decide_false, Bool.and_self, Bool.or_self, ↓reduceIte, ne_eq, not_false_eq_true, not_true_eq_false, reduceCtorEq, Nat.reduceLT, Nat.reduceEqDiff, Nat.reduceAdd, Nat.reduceMul, Nat.reduceLeDiff, Nat.reduceDiv, Nat.reduceMod, Nat.reduceSub, Nat.reduceBEq, List.length_map, bs_len, rn_len, chs_len, chs_cnt, List.length_append, List.length_cons, List.length_nil, Ch.x, Opn.x]; done)))
    | ((with_reducible refine And.intro ?_ ?_); (focus (try omega)))
    | ((with_reducible apply orc_m); (focus (exact number_ok _ _ (by simp only [List.length_append, List.length_cons]; omega); done)); (generalize hk : Kt _ _ _ _ _ _ _ _ _ = k; simp only [lv, E1, E2, E5, ET, T, orc_mv, noO_mv, mvB, orc_bx, noO_bx, bxB, fwd, fwds, inv, mOk, Int.toNat_natCast, Nat.div_one, Nat.mul_one, Int.reduceToNat, List.not_mem_nil, true_or, or_true, true_and, and_true, decide_true, decide_false, Bool.and_self, Bool.or_self, ↓reduceIte, ne_eq, not_false_eq_true, not_true_eq_false, reduceCtorEq, Nat.reduceLT, Nat.reduceEqDiff, Nat.reduceAdd, Nat.reduceMul, Nat.reduceLeDiff, Nat.reduceDiv, Nat.reduceMod, Nat.reduceSub, Nat.reduceBEq, List.length_map, bs_len, rn_len, chs_len, chs_cnt, List.length_append, List.length_cons, List.length_nil, Ch.x, Opn.x]; (try simp (disch := omega) only [wrap_in, Int.toNat_natCast, tv_rn, tv_ch0, tv_ch1, tv_ch2]); subst hk))
    | ((with_reducible apply orc_m); (focus (exact piece_ok _ _ (hq (by omega)).1 (hs (by omega)).1 (by simp only [List.length_append, List.length_cons, numB_len]; omega); done)); (generalize hk : Kt _ _ _ _ _ _ _ _ _ = k; simp only [lv, E1, E2, E5, ET, T, orc_mv, noO_mv, mvB, orc_bx, noO_bx, bxB, fwd, fwds, inv, mOk, Int.toNat_natCast, Nat.div_one, Nat.mul_one, Int.reduceToNat, List.not_mem_nil, true_or, or_true, true_and, and_true, decide_true, decide_false, Bool.and_self, Bool.or_self, ↓reduceIte, ne_eq, not_false_eq_true, not_true_eq_false, reduceCtorEq, Nat.reduceLT, Nat.reduceEqDiff, Nat.reduceAdd, Nat.reduceMul, Nat.reduceLeDiff, Nat.reduceDiv, Nat.reduceMod, Nat.reduceSub, Nat.reduceBEq, List.length_map, bs_len, rn_len, chs_len, chs_cnt, List.length_append, List.length_cons, List.length_nil, Ch.x, Opn.x]; (try simp (disch := omega) only [wrap_in, Int.toNat_natCast, tv_rn, tv_ch0, tv_ch1, tv_ch2]); subst hk))
    | ((with_reducible apply orc_m); (focus (exact piece_ok _ _ (hq (by omega)).2 (hs (by omega)).2 (by have := hp1 (by omega); have := (hs (by omega)).1; simp only [List.length_append, List.length_cons, numB_len]; omega); done)); (generalize hk : Kt _ _ _ _ _ _ _ _ _ = k; simp only [lv, E1, E2, E5, ET, T, orc_mv, noO_mv, mvB, orc_bx, noO_bx, bxB, fwd, fwds, inv, mOk, Int.toNat_natCast, Nat.div_one, Nat.mul_one, Int.reduceToNat, List.not_mem_nil, true_or, or_true, true_and, and_true, decide_true, decide_false, Bool.and_self, Bool.or_self, ↓reduceIte, ne_eq, not_false_eq_true, not_true_eq_false, reduceCtorEq, Nat.reduceLT, Nat.reduceEqDiff, Nat.reduceAdd, Nat.reduceMul, Nat.reduceLeDiff, Nat.reduceDiv, Nat.reduceMod, Nat.reduceSub, Nat.reduceBEq, List.length_map, bs_len, rn_len, chs_len, chs_cnt, List.length_append, List.length_cons, List.length_nil, Ch.x, Opn.x]; (try simp (disch := omega) only [wrap_in, Int.toNat_natCast, tv_rn, tv_ch0, tv_ch1, tv_ch2]); subst hk))
  · refine Kl_n ⟨k + 1, by omega, by omega, ?_⟩
    rw [flat_1 (by omega)]
    simp only [Int.natCast_add, Int.natCast_one, chF, List.append_assoc, List.cons_append]
  · refine Kf_r ?_
    rw [List.take_of_length_le (by omega)]
    simp only [Tryd.f36, E4, E3, E2, E5, rawX, deadX, ET, T, List.not_mem_nil, true_or, or_true, true_and, and_true, decide_true, decide_false, Bool.and_self, Bool.or_self, ↓reduceIte, ne_eq, not_false_eq_true, not_true_eq_false, reduceCtorEq, Nat.reduceLT, Nat.reduceEqDiff, Nat.reduceAdd, Nat.reduceMul, Nat.reduceLeDiff, Nat.reduceDiv, Nat.reduceMod, Nat.reduceSub, Nat.reduceBEq, List.length_map, bs_len, rn_len, chs_len, chs_cnt, List.length_append, List.length_cons, List.length_nil, Ch.x, Opn.x, chsF]
def isI (n : Int) : Bool := decide (0 ≤ n ∧ n ≤ 2147483647)
/-- An operation's bytes, and why not. -/
def opF (o : Opn) : List Int × Int :=
  if o.kind = 1 then if isI o.at_ = false ∨ o.text = [] then ([], 2) else if ¬ scal o.text then ([], 11) else if 5 + (encF o.text).length > 4096 then ([], 3) else (1 :: (numB o.at_ ++ encF o.text), 0)
  else if o.kind = 2 then if isI o.at_ = false ∨ isI o.to_ = false then ([], 2) else (2 :: (numB o.at_ ++ numB o.to_), 0)
  else if o.kind = 3 ∨ o.kind = 4 then ([o.kind], 0) else ([], 2)
theorem scal_of {l : List Int} (h : (if scal l then (0 : Int) else 11) = 0) : scal l := by
  by_cases hs : scal l
  · exact hs
  · rw [if_neg hs] at h; exact absurd h (by decide)
theorem not_scal {l : List Int} (h : ¬ (if scal l then (0 : Int) else 11) = 0) : ¬ scal l := fun hs => h (if_pos hs)
theorem isI_t {n : Int} (h : 0 ≤ n ∧ n ≤ 2147483647) : isI n = true := decide_eq_true h
theorem isI_f {n : Int} (h : ¬ (0 ≤ n ∧ n ≤ 2147483647)) : isI n = false := decide_eq_false h
theorem opF_err1 {o : Opn} (k : o.kind = 1) (h : isI o.at_ = false ∨ o.text = []) : opF o = ([], 2) := by unfold opF; rw [if_pos k, if_pos h]
theorem opF_scal {o : Opn} (k : o.kind = 1) (h : ¬ (isI o.at_ = false ∨ o.text = [])) (hs : ¬ scal o.text) : opF o = ([], 11) := by unfold opF; rw [if_pos k, if_neg h, if_pos hs]
theorem opF_big {o : Opn} (k : o.kind = 1) (h : ¬ (isI o.at_ = false ∨ o.text = [])) (hs : scal o.text) (hb : 5 + (encF o.text).length > 4096) : opF o = ([], 3) := by unfold opF; rw [if_pos k, if_neg h, if_neg (fun q => q hs), if_pos hb]
theorem opF_ins {o : Opn} (k : o.kind = 1) (h : ¬ (isI o.at_ = false ∨ o.text = [])) (hs : scal o.text) (hb : ¬ 5 + (encF o.text).length > 4096) : opF o = (1 :: (numB o.at_ ++ encF o.text), 0) := by unfold opF; rw [if_pos k, if_neg h, if_neg (fun q => q hs), if_neg hb]
theorem opF_err2 {o : Opn} (k : o.kind = 2) (h : isI o.at_ = false ∨ isI o.to_ = false) : opF o = ([], 2) := by unfold opF; rw [if_neg (by omega), if_pos k, if_pos h]
theorem opF_del {o : Opn} (k : o.kind = 2) (h : ¬ (isI o.at_ = false ∨ isI o.to_ = false)) : opF o = (2 :: (numB o.at_ ++ numB o.to_), 0) := by unfold opF; rw [if_neg (by omega), if_pos k, if_neg h]
theorem opF_un {o : Opn} (k : o.kind = 3 ∨ o.kind = 4) : opF o = ([o.kind], 0) := by unfold opF; rw [if_neg (by omega), if_neg (by omega), if_pos k]
theorem opF_no {o : Opn} (h1 : ¬ o.kind = 1) (h2 : ¬ o.kind = 2) (h3 : ¬ o.kind = 3) (h4 : ¬ o.kind = 4) : opF o = ([], 2) := by unfold opF; rw [if_neg h1, if_neg h2, if_neg (by omega)]
theorem w_1 : IntKind.u8.wrap 1 = 1 := by decide
theorem w_2 : IntKind.u8.wrap 2 = 2 := by decide
set_option maxRecDepth 10000 in
set_option maxHeartbeats 4000000 in
theorem wop_ok (o : Opn) (h : R32s o.text) (hl : o.text.length ≤ 2000000) : CallOk Tryd.prog 16 [o.x] (.tup [.one (.sr 0), .one (.v (.raw (.int .i64 (opF o).2)))]) [(5, 1, bs (opF o).1)] true := by
  have hv := encV_le o.text
  refine fn_ok' T_ok (orc_ok _) mixed Tryd.func16 rfl (by kernel_rfl) (lv [[1], [1, 4], [1, 4, 13], [2, 3], [1, 4, 13, 14], [1, 4, 25], [2, 3], [1, 4, 5, 7], [1, 4, 5, 7, 34], [2, 3], [4], [1, 4, 13, 42], [1, 4, 53], [2, 3], [4], [4, 13, 61], [4, 61], [4, 66], [2, 3], [2, 3]]) 68 rfl (by simp) rfl (fun _ => ⟨rfl, rows_raw⟩) ?_
  simp only [argsG, Nat.zero_add, Nat.reduceAdd, Opn.x]
  repeat' first
    | ((with_reducible refine vOps_cons' ?_)
       generalize hk : Kt _ _ _ _ _ _ _ _ _ = k
       simp only [Tryd.f16, lv, E1, E2, E5, ET, T, orc_mv, noO_mv, mvB, orc_bx, noO_bx, bxB, fwd, fwds, inv, mOk, Int.toNat_natCast, Nat.div_one, Nat.mul_one, Int.reduceToNat, List.not_mem_nil, true_or, or_true, true_and, and_true, decide_true, decide_false, Bool.and_self, Bool.or_self, ↓reduceIte, ne_eq, not_false_eq_true, not_true_eq_false, reduceCtorEq, Nat.reduceLT, Nat.reduceEqDiff, Nat.reduceAdd, Nat.reduceMul, Nat.reduceLeDiff, Nat.reduceDiv, Nat.reduceMod, Nat.reduceSub, Nat.reduceBEq, List.length_map, bs_len, rn_len, chs_len, chs_cnt, List.length_append, List.length_cons, List.length_nil, Ch.x, Opn.x]
       try simp (disch := omega) only [wrap_in, Int.toNat_natCast, tv_rn, tv_ch0, tv_ch1, tv_ch2]
       subst hk)
    | with_reducible refine Kt_p ?_
    | with_reducible refine Kt_i (by kernel_rfl) ?_
    | with_reducible refine Kr_f (by kernel_rfl) ?_
    | (with_reducible refine Kr_t ?_; simp only [List.length_append, List.length_cons, List.length_nil, Nat.reduceAdd, Nat.reduceSub, List.drop_succ_cons, List.drop_zero])
    | with_reducible refine vR_nil ?_
    | with_reducible refine KtR_i (by kernel_rfl) ?_
    | with_reducible refine KrR_i (by kernel_rfl) ?_
    | with_reducible refine vR_skip (by decide) ?_
    | ((with_reducible refine vR_cons (by decide) ?_)
       generalize hk : KtR _ _ _ _ _ _ _ _ _ _ = k
       simp only [Tryd.f16, lv, E1, E2, E5, ET, T, orc_mv, noO_mv, mvB, orc_bx, noO_bx, bxB, fwd, fwds, inv, mOk, Int.toNat_natCast, Nat.div_one, Nat.mul_one, Int.reduceToNat, List.not_mem_nil, true_or, or_true, true_and, and_true, decide_true, decide_false, Bool.and_self, Bool.or_self, ↓reduceIte, ne_eq, not_false_eq_true, not_true_eq_false, reduceCtorEq, Nat.reduceLT, Nat.reduceEqDiff, Nat.reduceAdd, Nat.reduceMul, Nat.reduceLeDiff, Nat.reduceDiv, Nat.reduceMod, Nat.reduceSub, Nat.reduceBEq, List.length_map, bs_len, rn_len, chs_len, chs_cnt, List.length_append, List.length_cons, List.length_nil, Ch.x, Opn.x]
       try simp (disch := omega) only [wrap_in, Int.toNat_natCast, tv_rn, tv_ch0, tv_ch1, tv_ch2]
       subst hk)
    | ((with_reducible refine vB_i ?_ ?_) <;> intro _ <;> (first | (exfalso; omega) | (exact absurd trivial ‹¬True›) | (try dsimp only [])))
    | ((with_reducible refine vOps_nil' ?_); refine Kr_i (by kernel_rfl) ?_; generalize hk : plain _ _ = G; simp only [lv, E3, E2, E5, rawX, deadX, List.not_mem_nil, true_or, or_true, true_and, and_true, decide_true, decide_false, Bool.and_self, Bool.or_self, ↓reduceIte, ne_eq, not_false_eq_true, not_true_eq_false, reduceCtorEq, Nat.reduceLT, Nat.reduceEqDiff, Nat.reduceAdd, Nat.reduceMul, Nat.reduceLeDiff, Nat.reduceDiv, Nat.reduceMod, Nat.reduceSub, Nat.reduceBEq, List.length_map, bs_len, rn_len, chs_len, chs_cnt, List.length_append, List.length_cons, List.length_nil, Ch.x, Opn.x] at hk; subst hk)
    | with_reducible refine vSeq_i ?_
    | with_reducible refine vRegion_i (by kernel_rfl) ?_
    | with_reducible refine Kv_i ?_
    | ((with_reducible apply vStrK_i); (focus (rfl; done)))
    | ((with_reducible refine imp_i ?_); intro _)
    | with_reducible refine Ks_n ?_
    | with_reducible refine Ks_r ?_
    | with_reducible refine Ks_e ?_
    | with_reducible refine Kl_e ?_
    | with_reducible refine Kx_n ?_
    | with_reducible refine Kl_r ?_
    | with_reducible refine vRet_i ?_
    | with_reducible refine vSkip_i ?_
    | with_reducible refine vExit_i ?_
    | with_reducible refine vBlock_i ?_
    | with_reducible refine Ks_p ?_
    | with_reducible refine Kl_p ?_
    | with_reducible refine blk_p ?_
    | with_reducible exact Kb_p
    | with_reducible refine vGoto_i ?_
    | with_reducible refine vLabel_i ?_
    | with_reducible refine Ks_g ?_
    | with_reducible refine Kl_g ?_
    | with_reducible refine blk_g ?_
    | with_reducible refine jmp_g ?_
    | with_reducible refine jmp_n ?_
    | with_reducible refine jmp_r ?_
    | with_reducible refine nog_n ?_
    | with_reducible refine nog_r ?_
    | with_reducible refine blk_n ?_
    | with_reducible refine blk_r ?_
    | with_reducible refine blk_e ?_
    | with_reducible refine blk_o (by decide) ?_
    | ((with_reducible refine vCond_t ?_ ?_); (focus (simp only [lv, E1, E2, E5, ET, T, orc_mv, noO_mv, mvB, orc_bx, noO_bx, bxB, fwd, fwds, inv, mOk, Int.toNat_natCast, Nat.div_one, Nat.mul_one, Int.reduceToNat, List.not_mem_nil, true_or, or_true, true_and, and_true, decide_true, decide_false, Bool.and_self, Bool.or_self, ↓reduceIte, ne_eq, not_false_eq_true, not_true_eq_false, reduceCtorEq, Nat.reduceLT, Nat.reduceEqDiff, Nat.reduceAdd, Nat.reduceMul, Nat.reduceLeDiff, Nat.reduceDiv, Nat.reduceMod, Nat.reduceSub, Nat.reduceBEq, List.length_map, bs_len, rn_len, chs_len, chs_cnt, List.length_append, List.length_cons, List.length_nil, Ch.x, Opn.x]; done)))
    | ((with_reducible refine vCond_f ?_ ?_); (focus (simp only [lv, E1, E2, E5, ET, T, orc_mv, noO_mv, mvB, orc_bx, noO_bx, bxB, fwd, fwds, inv, mOk, Int.toNat_natCast, Nat.div_one, Nat.mul_one, Int.reduceToNat, List.not_mem_nil, true_or, or_true, true_and, and_true, decide_true, decide_false, Bool.and_self, Bool.or_self, ↓reduceIte, ne_eq, not_false_eq_true, not_true_eq_false, reduceCtorEq, Nat.reduceLT, Nat.reduceEqDiff, Nat.reduceAdd, Nat.reduceMul, Nat.reduceLeDiff, Nat.reduceDiv, Nat.reduceMod, Nat.reduceSub, Nat.reduceBEq, List.length_map, bs_len, rn_len, chs_len, chs_cnt, List.length_append, List.length_cons, List.length_nil, Ch.x, Opn.x]; done)))
    | ((with_reducible refine And.intro ?_ ?_); (focus (try omega)))
    | ((with_reducible apply orc_b); (focus (exact is_ok _; done)); (all_goals (intro hb; (try simp only [decide_eq_true_eq, decide_eq_false_iff_not, Bool.not_eq_true', Bool.not_eq_false', Bool.and_eq_true, Decidable.not_not] at hb); (generalize hk : Kt _ _ _ _ _ _ _ _ _ = k; simp only [lv, E1, E2, E5, ET, T, orc_mv, noO_mv, mvB, orc_bx, noO_bx, bxB, fwd, fwds, inv, mOk, Int.toNat_natCast, Nat.div_one, Nat.mul_one, Int.reduceToNat, List.not_mem_nil, true_or, or_true, true_and, and_true, decide_true, decide_false, Bool.and_self, Bool.or_self, ↓reduceIte, ne_eq, not_false_eq_true, not_true_eq_false, reduceCtorEq, Nat.reduceLT, Nat.reduceEqDiff, Nat.reduceAdd, Nat.reduceMul, Nat.reduceLeDiff, Nat.reduceDiv, Nat.reduceMod, Nat.reduceSub, Nat.reduceBEq, List.length_map, bs_len, rn_len, chs_len, chs_cnt, List.length_append, List.length_cons, List.length_nil, Ch.x, Opn.x]; (try simp (disch := omega) only [wrap_in, Int.toNat_natCast, tv_rn, tv_ch0, tv_ch1, tv_ch2]); subst hk))))
    | ((with_reducible apply orc_i); (focus ((have hq := encode_ok o.text h hl; simp only [encX, encR_v] at hq; exact hq); done)); (generalize hk : Kt _ _ _ _ _ _ _ _ _ = k; simp only [lv, E1, E2, E5, ET, T, orc_mv, noO_mv, mvB, orc_bx, noO_bx, bxB, fwd, fwds, inv, mOk, Int.toNat_natCast, Nat.div_one, Nat.mul_one, Int.reduceToNat, List.not_mem_nil, true_or, or_true, true_and, and_true, decide_true, decide_false, Bool.and_self, Bool.or_self, ↓reduceIte, ne_eq, not_false_eq_true, not_true_eq_false, reduceCtorEq, Nat.reduceLT, Nat.reduceEqDiff, Nat.reduceAdd, Nat.reduceMul, Nat.reduceLeDiff, Nat.reduceDiv, Nat.reduceMod, Nat.reduceSub, Nat.reduceBEq, List.length_map, bs_len, rn_len, chs_len, chs_cnt, List.length_append, List.length_cons, List.length_nil, Ch.x, Opn.x]; (try simp (disch := omega) only [wrap_in, Int.toNat_natCast, tv_rn, tv_ch0, tv_ch1, tv_ch2]); subst hk))
    | ((with_reducible apply orc_m); (focus (exact number_ok [IntKind.u8.wrap o.kind] _ (by simp); done)); (generalize hk : Kt _ _ _ _ _ _ _ _ _ = k; simp only [lv, E1, E2, E5, ET, T, orc_mv, noO_mv, mvB, orc_bx, noO_bx, bxB, fwd, fwds, inv, mOk, Int.toNat_natCast, Nat.div_one, Nat.mul_one, Int.reduceToNat, List.not_mem_nil, true_or, or_true, true_and, and_true, decide_true, decide_false, Bool.and_self, Bool.or_self, ↓reduceIte, ne_eq, not_false_eq_true, not_true_eq_false, reduceCtorEq, Nat.reduceLT, Nat.reduceEqDiff, Nat.reduceAdd, Nat.reduceMul, Nat.reduceLeDiff, Nat.reduceDiv, Nat.reduceMod, Nat.reduceSub, Nat.reduceBEq, List.length_map, bs_len, rn_len, chs_len, chs_cnt, List.length_append, List.length_cons, List.length_nil, Ch.x, Opn.x]; (try simp (disch := omega) only [wrap_in, Int.toNat_natCast, tv_rn, tv_ch0, tv_ch1, tv_ch2]); subst hk))
    | ((with_reducible apply orc_m); (focus (exact number_ok _ _ (by simp only [List.length_append, List.length_cons, List.length_nil, numB_len]; omega); done)); (generalize hk : Kt _ _ _ _ _ _ _ _ _ = k; simp only [lv, E1, E2, E5, ET, T, orc_mv, noO_mv, mvB, orc_bx, noO_bx, bxB, fwd, fwds, inv, mOk, Int.toNat_natCast, Nat.div_one, Nat.mul_one, Int.reduceToNat, List.not_mem_nil, true_or, or_true, true_and, and_true, decide_true, decide_false, Bool.and_self, Bool.or_self, ↓reduceIte, ne_eq, not_false_eq_true, not_true_eq_false, reduceCtorEq, Nat.reduceLT, Nat.reduceEqDiff, Nat.reduceAdd, Nat.reduceMul, Nat.reduceLeDiff, Nat.reduceDiv, Nat.reduceMod, Nat.reduceSub, Nat.reduceBEq, List.length_map, bs_len, rn_len, chs_len, chs_cnt, List.length_append, List.length_cons, List.length_nil, Ch.x, Opn.x]; (try simp (disch := omega) only [wrap_in, Int.toNat_natCast, tv_rn, tv_ch0, tv_ch1, tv_ch2]); subst hk))
  all_goals try (simp only [List.length_append, List.length_cons, List.length_nil, numB_len]; omega)
  · rename_i k1 k2
    rw [opF_err1 k1 (.inr (List.eq_nil_of_length_eq_zero (by omega)))]
    refine Kf_r ?_
    simp only [Tryd.f16, E4, E3, E2, E5, rawX, deadX, ET, T, List.not_mem_nil, true_or, or_true, true_and, and_true, decide_true, decide_false, Bool.and_self, Bool.or_self, ↓reduceIte, ne_eq, not_false_eq_true, not_true_eq_false, reduceCtorEq, Nat.reduceLT, Nat.reduceEqDiff, Nat.reduceAdd, Nat.reduceMul, Nat.reduceLeDiff, Nat.reduceDiv, Nat.reduceMod, Nat.reduceSub, Nat.reduceBEq, List.length_map, bs_len, rn_len, chs_len, chs_cnt, List.length_append, List.length_cons, List.length_nil, Ch.x, Opn.x, bs_nil]
  · rename_i k1 k2 k3 k4
    have hn : ¬ (isI o.at_ = false ∨ o.text = []) := fun q => by
      rcases q with q | q
      · rw [isI_t hb] at q; cases q
      · rw [q] at k2; exact k2 rfl
    have hs := scal_of k3
    rw [show encV o.text = encF o.text from if_pos hs, numB_len] at k4
    rw [opF_big k1 hn hs (by omega)]
    refine Kf_r ?_
    simp only [Tryd.f16, E4, E3, E2, E5, rawX, deadX, ET, T, List.not_mem_nil, true_or, or_true, true_and, and_true, decide_true, decide_false, Bool.and_self, Bool.or_self, ↓reduceIte, ne_eq, not_false_eq_true, not_true_eq_false, reduceCtorEq, Nat.reduceLT, Nat.reduceEqDiff, Nat.reduceAdd, Nat.reduceMul, Nat.reduceLeDiff, Nat.reduceDiv, Nat.reduceMod, Nat.reduceSub, Nat.reduceBEq, List.length_map, bs_len, rn_len, chs_len, chs_cnt, List.length_append, List.length_cons, List.length_nil, Ch.x, Opn.x, bs_nil]
  · rename_i k1 k2 k3 k4
    have hn : ¬ (isI o.at_ = false ∨ o.text = []) := fun q => by
      rcases q with q | q
      · rw [isI_t hb] at q; cases q
      · rw [q] at k2; exact k2 rfl
    have hs := scal_of k3
    rw [show encV o.text = encF o.text from if_pos hs, numB_len] at k4
    rw [opF_ins k1 hn hs (by omega), show encV o.text = encF o.text from if_pos hs, k1, w_1, ← bs_app]
    refine Kf_r ?_
    simp only [Tryd.f16, E4, E3, E2, E5, rawX, deadX, ET, T, List.not_mem_nil, true_or, or_true, true_and, and_true, decide_true, decide_false, Bool.and_self, Bool.or_self, ↓reduceIte, ne_eq, not_false_eq_true, not_true_eq_false, reduceCtorEq, Nat.reduceLT, Nat.reduceEqDiff, Nat.reduceAdd, Nat.reduceMul, Nat.reduceLeDiff, Nat.reduceDiv, Nat.reduceMod, Nat.reduceSub, Nat.reduceBEq, List.length_map, bs_len, rn_len, chs_len, chs_cnt, List.length_append, List.length_cons, List.length_nil, Ch.x, Opn.x, List.cons_append]
  · rename_i k1 k2 k3
    have hn : ¬ (isI o.at_ = false ∨ o.text = []) := fun q => by
      rcases q with q | q
      · rw [isI_t hb] at q; cases q
      · rw [q] at k2; exact k2 rfl
    have hs := not_scal k3
    rw [opF_scal k1 hn hs, if_neg hs]
    refine Kf_r ?_
    simp only [Tryd.f16, E4, E3, E2, E5, rawX, deadX, ET, T, List.not_mem_nil, true_or, or_true, true_and, and_true, decide_true, decide_false, Bool.and_self, Bool.or_self, ↓reduceIte, ne_eq, not_false_eq_true, not_true_eq_false, reduceCtorEq, Nat.reduceLT, Nat.reduceEqDiff, Nat.reduceAdd, Nat.reduceMul, Nat.reduceLeDiff, Nat.reduceDiv, Nat.reduceMod, Nat.reduceSub, Nat.reduceBEq, List.length_map, bs_len, rn_len, chs_len, chs_cnt, List.length_append, List.length_cons, List.length_nil, Ch.x, Opn.x, bs_nil]
  · rename_i k1
    rw [opF_err1 k1 (.inl (isI_f hb))]
    refine Kf_r ?_
    simp only [Tryd.f16, E4, E3, E2, E5, rawX, deadX, ET, T, List.not_mem_nil, true_or, or_true, true_and, and_true, decide_true, decide_false, Bool.and_self, Bool.or_self, ↓reduceIte, ne_eq, not_false_eq_true, not_true_eq_false, reduceCtorEq, Nat.reduceLT, Nat.reduceEqDiff, Nat.reduceAdd, Nat.reduceMul, Nat.reduceLeDiff, Nat.reduceDiv, Nat.reduceMod, Nat.reduceSub, Nat.reduceBEq, List.length_map, bs_len, rn_len, chs_len, chs_cnt, List.length_append, List.length_cons, List.length_nil, Ch.x, Opn.x, bs_nil]
  · rename_i k1 k2 hb1 k3
    exfalso
    rw [numB_len, numB_len] at k3
    omega
  · rename_i k1 k2 hb1 k3
    have hn : ¬ (isI o.at_ = false ∨ isI o.to_ = false) := fun q => by
      rcases q with q | q
      · rw [isI_t hb1] at q; cases q
      · rw [isI_t hb] at q; cases q
    rw [opF_del k2 hn, k2, w_2]
    refine Kf_r ?_
    simp only [Tryd.f16, E4, E3, E2, E5, rawX, deadX, ET, T, List.not_mem_nil, true_or, or_true, true_and, and_true, decide_true, decide_false, Bool.and_self, Bool.or_self, ↓reduceIte, ne_eq, not_false_eq_true, not_true_eq_false, reduceCtorEq, Nat.reduceLT, Nat.reduceEqDiff, Nat.reduceAdd, Nat.reduceMul, Nat.reduceLeDiff, Nat.reduceDiv, Nat.reduceMod, Nat.reduceSub, Nat.reduceBEq, List.length_map, bs_len, rn_len, chs_len, chs_cnt, List.length_append, List.length_cons, List.length_nil, Ch.x, Opn.x, bs_nil]
  · rename_i k1 k2 hb1
    rw [opF_err2 k2 (.inr (isI_f hb))]
    refine Kf_r ?_
    simp only [Tryd.f16, E4, E3, E2, E5, rawX, deadX, ET, T, List.not_mem_nil, true_or, or_true, true_and, and_true, decide_true, decide_false, Bool.and_self, Bool.or_self, ↓reduceIte, ne_eq, not_false_eq_true, not_true_eq_false, reduceCtorEq, Nat.reduceLT, Nat.reduceEqDiff, Nat.reduceAdd, Nat.reduceMul, Nat.reduceLeDiff, Nat.reduceDiv, Nat.reduceMod, Nat.reduceSub, Nat.reduceBEq, List.length_map, bs_len, rn_len, chs_len, chs_cnt, List.length_append, List.length_cons, List.length_nil, Ch.x, Opn.x, bs_nil]
  · rename_i k1 k2
    rw [opF_err2 k2 (.inl (isI_f hb))]
    refine Kf_r ?_
    simp only [Tryd.f16, E4, E3, E2, E5, rawX, deadX, ET, T, List.not_mem_nil, true_or, or_true, true_and, and_true, decide_true, decide_false, Bool.and_self, Bool.or_self, ↓reduceIte, ne_eq, not_false_eq_true, not_true_eq_false, reduceCtorEq, Nat.reduceLT, Nat.reduceEqDiff, Nat.reduceAdd, Nat.reduceMul, Nat.reduceLeDiff, Nat.reduceDiv, Nat.reduceMod, Nat.reduceSub, Nat.reduceBEq, List.length_map, bs_len, rn_len, chs_len, chs_cnt, List.length_append, List.length_cons, List.length_nil, Ch.x, Opn.x, bs_nil]
  · rename_i k1 k2 k3 k4
    rw [opF_un (.inl k3), show IntKind.u8.wrap o.kind = o.kind from u8in (by omega) (by omega)]
    refine Kf_r ?_
    simp only [Tryd.f16, E4, E3, E2, E5, rawX, deadX, ET, T, List.not_mem_nil, true_or, or_true, true_and, and_true, decide_true, decide_false, Bool.and_self, Bool.or_self, ↓reduceIte, ne_eq, not_false_eq_true, not_true_eq_false, reduceCtorEq, Nat.reduceLT, Nat.reduceEqDiff, Nat.reduceAdd, Nat.reduceMul, Nat.reduceLeDiff, Nat.reduceDiv, Nat.reduceMod, Nat.reduceSub, Nat.reduceBEq, List.length_map, bs_len, rn_len, chs_len, chs_cnt, List.length_append, List.length_cons, List.length_nil, Ch.x, Opn.x, bs, List.map_cons, List.map_nil]
  · rename_i k1 k2 k3 k4 k5
    rw [opF_un (.inr k4), show IntKind.u8.wrap o.kind = o.kind from u8in (by omega) (by omega)]
    refine Kf_r ?_
    simp only [Tryd.f16, E4, E3, E2, E5, rawX, deadX, ET, T, List.not_mem_nil, true_or, or_true, true_and, and_true, decide_true, decide_false, Bool.and_self, Bool.or_self, ↓reduceIte, ne_eq, not_false_eq_true, not_true_eq_false, reduceCtorEq, Nat.reduceLT, Nat.reduceEqDiff, Nat.reduceAdd, Nat.reduceMul, Nat.reduceLeDiff, Nat.reduceDiv, Nat.reduceMod, Nat.reduceSub, Nat.reduceBEq, List.length_map, bs_len, rn_len, chs_len, chs_cnt, List.length_append, List.length_cons, List.length_nil, Ch.x, Opn.x, bs, List.map_cons, List.map_nil]
  · rename_i k1 k2 k3 k4
    rw [opF_no k1 k2 k3 k4]
    refine Kf_r ?_
    simp only [Tryd.f16, E4, E3, E2, E5, rawX, deadX, ET, T, List.not_mem_nil, true_or, or_true, true_and, and_true, decide_true, decide_false, Bool.and_self, Bool.or_self, ↓reduceIte, ne_eq, not_false_eq_true, not_true_eq_false, reduceCtorEq, Nat.reduceLT, Nat.reduceEqDiff, Nat.reduceAdd, Nat.reduceMul, Nat.reduceLeDiff, Nat.reduceDiv, Nat.reduceMod, Nat.reduceSub, Nat.reduceBEq, List.length_map, bs_len, rn_len, chs_len, chs_cnt, List.length_append, List.length_cons, List.length_nil, Ch.x, Opn.x, bs_nil]
end Go.Proofs.YtdpflafjfkooeaaDoorG
