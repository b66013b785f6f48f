import Derived.Test.YtdpflafjfkooeaaDoorC6
namespace Go.Proofs.YtdpflafjfkooeaaDoorG
open Go Go.RowKit Go.Proofs
set_option linter.unusedSimpArgs false
set_option linter.unusedVariables false
def formG (r : Int) : List Int := if szU r = 0 then [] else formF r
theorem formG_len (r : Int) : ((formG r).length : Int) = szU r := by
  unfold formG
  by_cases h : szU r = 0
  · rw [if_pos h, h]; rfl
  · rw [if_neg h]; exact form_len h
/-- How many bytes the numbers have, one by one. -/
def textN (l : List Int) : Nat := (l.flatMap formG).length
theorem textN_1 {l : List Int} {k : Nat} (h : k < l.length) : (textN (l.take (k + 1)) : Int) = textN (l.take k) + szU (l.getD k 0) := by
  unfold textN
  rw [take_1 h, List.flatMap_append, List.length_append]
  simp only [List.flatMap_cons, List.flatMap_nil, List.append_nil]
  have := formG_len (l.getD k 0)
  omega
theorem textN_le (l : List Int) : textN l ≤ 4 * l.length := by
  unfold textN
  induction l with
  | nil => simp
  | cons r l ih => have h1 := formG_len r; have h2 := szU_le r; simp only [List.flatMap_cons, List.length_append, List.length_cons] at ih ⊢; omega
theorem textN_scal {l : List Int} (hs : scal l) : textN l = (encV l).length := by
  have : ∀ l : List Int, (∀ r ∈ l, szU r ≠ 0) → l.flatMap formG = l.flatMap formF := fun l => by
    induction l with
    | nil => intro _; rfl
    | cons r l ih => intro h; rw [List.flatMap_cons, List.flatMap_cons, ih fun r hr => h r (by simp [hr])]; unfold formG; rw [if_neg (h r (by simp))]
  unfold textN encV encF
  rw [if_pos hs, this l fun r hr => ?_]
  obtain ⟨i, hi, rfl⟩ := List.getElem_of_mem hr
  have := hs i hi
  rwa [List.getD_eq_getElem?_getD, List.getElem?_eq_getElem hi] at this
set_option maxRecDepth 10000 in
set_option maxHeartbeats 1000000 in
theorem text_ok (l : List Int) (h : R32s l) (hl : l.length ≤ 2000000) : CallOk Tryd.prog 49 [sl (rn l)] (i64 (textN l)) [] true := by
  refine fn_ok' T_ok (orc_ok _) mixed Tryd.func49 rfl (by kernel_rfl) (lv [[0], [0, 3], [0, 3, 4], [0, 3, 4, 8], [0, 3, 4], [0, 3, 4], [2]]) 19 rfl (by simp) rfl (by simp [X.all, PX.all, TV.rawR, SV.isRaw]) ?_
  simp only [argsG, Nat.zero_add, Nat.reduceAdd]
  repeat' first
    | ((with_reducible refine vOps_cons' ?_)
       generalize hk : Kt _ _ _ _ _ _ _ _ _ = k
       simp only [Tryd.f49, lv, E1, E2, E5, ET, T, orc_mv, noO_mv, mvB, orc_bx, noO_bx, bxB, fwd, fwds, inv, mOk, Int.toNat_natCast, Nat.div_one, Nat.mul_one, Int.reduceToNat, List.not_mem_nil, true_or, or_true, true_and, and_true, decide_true, decide_false, Bool.and_self, Bool.or_self, ↓reduceIte, ne_eq, not_false_eq_true, not_true_eq_false, reduceCtorEq, Nat.reduceLT, Nat.reduceEqDiff, Nat.reduceAdd, Nat.reduceMul, Nat.reduceLeDiff, Nat.reduceDiv, Nat.reduceMod, Nat.reduceSub, Nat.reduceBEq, List.length_map, bs_len, rn_len, chs_len, chs_cnt, List.length_append, List.length_cons, List.length_nil, Ch.x, Opn.x, St.x]
       try simp (disch := omega) only [wrap_in, Int.toNat_natCast, tv_rn, tv_ch0, tv_ch1, tv_ch2]
       subst hk)
    | with_reducible refine Kt_p ?_
    | with_reducible refine Kt_i (by kernel_rfl) ?_
    | with_reducible refine Kr_f (by kernel_rfl) ?_
    | (with_reducible refine Kr_t ?_; simp only [List.length_append, List.length_cons, List.length_nil, Nat.reduceAdd, Nat.reduceSub, List.drop_succ_cons, List.drop_zero])
    | with_reducible refine vR_nil ?_
    | with_reducible refine KtR_i (by kernel_rfl) ?_
    | with_reducible refine KrR_i (by kernel_rfl) ?_
    | with_reducible refine vR_skip (by decide) ?_
    | ((with_reducible refine vR_cons (by decide) ?_)
       generalize hk : KtR _ _ _ _ _ _ _ _ _ _ = k
       simp only [Tryd.f49, lv, E1, E2, E5, ET, T, orc_mv, noO_mv, mvB, orc_bx, noO_bx, bxB, fwd, fwds, inv, mOk, Int.toNat_natCast, Nat.div_one, Nat.mul_one, Int.reduceToNat, List.not_mem_nil, true_or, or_true, true_and, and_true, decide_true, decide_false, Bool.and_self, Bool.or_self, ↓reduceIte, ne_eq, not_false_eq_true, not_true_eq_false, reduceCtorEq, Nat.reduceLT, Nat.reduceEqDiff, Nat.reduceAdd, Nat.reduceMul, Nat.reduceLeDiff, Nat.reduceDiv, Nat.reduceMod, Nat.reduceSub, Nat.reduceBEq, List.length_map, bs_len, rn_len, chs_len, chs_cnt, List.length_append, List.length_cons, List.length_nil, Ch.x, Opn.x, St.x]
       try simp (disch := omega) only [wrap_in, Int.toNat_natCast, tv_rn, tv_ch0, tv_ch1, tv_ch2]
       subst hk)
    | ((with_reducible refine vB_i ?_ ?_) <;> intro _ <;> (first | (exfalso; omega) | (exact absurd trivial ‹¬True›) | (try dsimp only [])))
    | ((with_reducible refine vOps_nil' ?_); refine Kr_i (by kernel_rfl) ?_; generalize hk : plain _ _ = G; simp only [lv, E3, E2, E5, rawX, deadX, List.not_mem_nil, true_or, or_true, true_and, and_true, decide_true, decide_false, Bool.and_self, Bool.or_self, ↓reduceIte, ne_eq, not_false_eq_true, not_true_eq_false, reduceCtorEq, Nat.reduceLT, Nat.reduceEqDiff, Nat.reduceAdd, Nat.reduceMul, Nat.reduceLeDiff, Nat.reduceDiv, Nat.reduceMod, Nat.reduceSub, Nat.reduceBEq, List.length_map, bs_len, rn_len, chs_len, chs_cnt, List.length_append, List.length_cons, List.length_nil, Ch.x, Opn.x, St.x] at hk; subst hk)
    | with_reducible refine vSeq_i ?_
    | with_reducible refine vRegion_i (by kernel_rfl) ?_
    | with_reducible refine Kv_i ?_
    | ((with_reducible apply vStrK_i); (focus (rfl; done)))
    | ((with_reducible refine imp_i ?_); intro _)
    | with_reducible refine Ks_n ?_
    | with_reducible refine Ks_r ?_
    | with_reducible refine Ks_e ?_
    | with_reducible refine Kl_e ?_
    | with_reducible refine Kx_n ?_
    | with_reducible refine Kl_r ?_
    | with_reducible refine vRet_i ?_
    | with_reducible refine vSkip_i ?_
    | with_reducible refine vExit_i ?_
    | with_reducible refine vBlock_i ?_
    | with_reducible refine Ks_p ?_
    | with_reducible refine Kl_p ?_
    | with_reducible refine blk_p ?_
    | with_reducible exact Kb_p
    | with_reducible refine vGoto_i ?_
    | with_reducible refine vLabel_i ?_
    | with_reducible refine Ks_g ?_
    | with_reducible refine Kl_g ?_
    | with_reducible refine blk_g ?_
    | with_reducible refine jmp_g ?_
    | with_reducible refine jmp_n ?_
    | with_reducible refine jmp_r ?_
    | with_reducible refine nog_n ?_
    | with_reducible refine nog_r ?_
    | with_reducible refine blk_n ?_
    | with_reducible refine blk_r ?_
    | with_reducible refine blk_e ?_
    | with_reducible refine blk_o (by decide) ?_
    | ((with_reducible refine vCond_t ?_ ?_); (focus (simp only [lv, E1, E2, E5, ET, T, orc_mv, noO_mv, mvB, orc_bx, noO_bx, bxB, fwd, fwds, inv, mOk, Int.toNat_natCast, Nat.div_one, Nat.mul_one, Int.reduceToNat, List.not_mem_nil, true_or, or_true, true_and, and_true, decide_true, decide_false, Bool.and_self, Bool.or_self, ↓reduceIte, ne_eq, not_false_eq_true, not_true_eq_false, reduceCtorEq, Nat.reduceLT, Nat.reduceEqDiff, Nat.reduceAdd, Nat.reduceMul, Nat.reduceLeDiff, Nat.reduceDiv, Nat.reduceMod, Nat.reduceSub, Nat.reduceBEq, List.length_map, bs_len, rn_len, chs_len, chs_cnt, List.length_append, List.length_cons, List.length_nil, Ch.x, Opn.x, St.x]; done)))
    | ((with_reducible refine vCond_f ?_ ?_); (focus (simp only [lv, E1, E2, E5, ET, T, orc_mv, noO_mv, mvB, orc_bx, noO_bx, bxB, fwd, fwds, inv, mOk, Int.toNat_natCast, Nat.div_one, Nat.mul_one, Int.reduceToNat, List.not_mem_nil, true_or, or_true, true_and, and_true, decide_true, decide_false, Bool.and_self, Bool.or_self, ↓reduceIte, ne_eq, not_false_eq_true, not_true_eq_false, reduceCtorEq, Nat.reduceLT, Nat.reduceEqDiff, Nat.reduceAdd, Nat.reduceMul, Nat.reduceLeDiff, Nat.reduceDiv, Nat.reduceMod, Nat.reduceSub, Nat.reduceBEq, List.length_map, bs_len, rn_len, chs_len, chs_cnt, List.length_append, List.length_cons, List.length_nil, Ch.x, Opn.x, St.x]; done)))
    | ((with_reducible refine And.intro ?_ ?_); (focus (try omega)))
  refine vLoop_s (fun k : Nat => [(.t 0, .t (sl (rn l))), (.t 3, .t (i64 (textN (l.take k)))), (.t 4, .t (i64 k))]) (fun k => k ≤ l.length) (fun k => l.length - k) 0 (by omega) rfl ?_
  intro k hk
  have hb := textN_le (l.take k)
  rw [List.length_take] at hb
  have hz := szU_le (l.getD k 0)
  repeat' first
    | ((with_reducible refine vOps_cons' ?_)
       generalize hk : Kt _ _ _ _ _ _ _ _ _ = k
       simp only [Tryd.f49, lv, E1, E2, E5, ET, T, orc_mv, noO_mv, mvB, orc_bx, noO_bx, bxB, fwd, fwds, inv, mOk, Int.toNat_natCast, Nat.div_one, Nat.mul_one, Int.reduceToNat, List.not_mem_nil, true_or, or_true, true_and, and_true, decide_true, decide_false, Bool.and_self, Bool.or_self, ↓reduceIte, ne_eq, not_false_eq_true, not_true_eq_false, reduceCtorEq, Nat.reduceLT, Nat.reduceEqDiff, Nat.reduceAdd, Nat.reduceMul, Nat.reduceLeDiff, Nat.reduceDiv, Nat.reduceMod, Nat.reduceSub, Nat.reduceBEq, List.length_map, bs_len, rn_len, chs_len, chs_cnt, List.length_append, List.length_cons, List.length_nil, Ch.x, Opn.x, St.x]
       try simp (disch := omega) only [wrap_in, Int.toNat_natCast, tv_rn, tv_ch0, tv_ch1, tv_ch2]
       subst hk)
    | with_reducible refine Kt_p ?_
    | with_reducible refine Kt_i (by kernel_rfl) ?_
    | with_reducible refine Kr_f (by kernel_rfl) ?_
    | (with_reducible refine Kr_t ?_; simp only [List.length_append, List.length_cons, List.length_nil, Nat.reduceAdd, Nat.reduceSub, List.drop_succ_cons, List.drop_zero])
    | with_reducible refine vR_nil ?_
    | with_reducible refine KtR_i (by kernel_rfl) ?_
    | with_reducible refine KrR_i (by kernel_rfl) ?_
    | with_reducible refine vR_skip (by decide) ?_
    | ((with_reducible refine vR_cons (by decide) ?_)
       generalize hk : KtR _ _ _ _ _ _ _ _ _ _ = k
       simp only [Tryd.f49, lv, E1, E2, E5, ET, T, orc_mv, noO_mv, mvB, orc_bx, noO_bx, bxB, fwd, fwds, inv, mOk, Int.toNat_natCast, Nat.div_one, Nat.mul_one, Int.reduceToNat, List.not_mem_nil, true_or, or_true, true_and, and_true, decide_true, decide_false, Bool.and_self, Bool.or_self, ↓reduceIte, ne_eq, not_false_eq_true, not_true_eq_false, reduceCtorEq, Nat.reduceLT, Nat.reduceEqDiff, Nat.reduceAdd, Nat.reduceMul, Nat.reduceLeDiff, Nat.reduceDiv, Nat.reduceMod, Nat.reduceSub, Nat.reduceBEq, List.length_map, bs_len, rn_len, chs_len, chs_cnt, List.length_append, List.length_cons, List.length_nil, Ch.x, Opn.x, St.x]
       try simp (disch := omega) only [wrap_in, Int.toNat_natCast, tv_rn, tv_ch0, tv_ch1, tv_ch2]
       subst hk)
    | ((with_reducible refine vB_i ?_ ?_) <;> intro _ <;> (first | (exfalso; omega) | (exact absurd trivial ‹¬True›) | (try dsimp only [])))
    | ((with_reducible refine vOps_nil' ?_); refine Kr_i (by kernel_rfl) ?_; generalize hk : plain _ _ = G; simp only [lv, E3, E2, E5, rawX, deadX, List.not_mem_nil, true_or, or_true, true_and, and_true, decide_true, decide_false, Bool.and_self, Bool.or_self, ↓reduceIte, ne_eq, not_false_eq_true, not_true_eq_false, reduceCtorEq, Nat.reduceLT, Nat.reduceEqDiff, Nat.reduceAdd, Nat.reduceMul, Nat.reduceLeDiff, Nat.reduceDiv, Nat.reduceMod, Nat.reduceSub, Nat.reduceBEq, List.length_map, bs_len, rn_len, chs_len, chs_cnt, List.length_append, List.length_cons, List.length_nil, Ch.x, Opn.x, St.x] at hk; subst hk)
    | with_reducible refine vSeq_i ?_
    | with_reducible refine vRegion_i (by kernel_rfl) ?_
    | with_reducible refine Kv_i ?_
    | ((with_reducible apply vStrK_i); (focus (rfl; done)))
    | ((with_reducible refine imp_i ?_); intro _)
    | with_reducible refine Ks_n ?_
    | with_reducible refine Ks_r ?_
    | with_reducible refine Ks_e ?_
    | with_reducible refine Kl_e ?_
    | with_reducible refine Kx_n ?_
    | with_reducible refine Kl_r ?_
    | with_reducible refine vRet_i ?_
    | with_reducible refine vSkip_i ?_
    | with_reducible refine vExit_i ?_
    | with_reducible refine vBlock_i ?_
    | with_reducible refine Ks_p ?_
    | with_reducible refine Kl_p ?_
    | with_reducible refine blk_p ?_
    | with_reducible exact Kb_p
    | with_reducible refine vGoto_i ?_
    | with_reducible refine vLabel_i ?_
    | with_reducible refine Ks_g ?_
    | with_reducible refine Kl_g ?_
    | with_reducible refine blk_g ?_
    | with_reducible refine jmp_g ?_
    | with_reducible refine jmp_n ?_
    | with_reducible refine jmp_r ?_
    | with_reducible refine nog_n ?_
    | with_reducible refine nog_r ?_
    | with_reducible refine blk_n ?_
    | with_reducible refine blk_r ?_
    | with_reducible refine blk_e ?_
    | with_reducible refine blk_o (by decide) ?_
    | ((with_reducible refine vCond_t ?_ ?_); (focus (simp only [lv, E1, E2, E5, ET, T, orc_mv, noO_mv, mvB, orc_bx, noO_bx, bxB, fwd, fwds, inv, mOk, Int.toNat_natCast, Nat.div_one, Nat.mul_one, Int.reduceToNat, List.not_mem_nil, true_or, or_true, true_and, and_true, decide_true, decide_false, Bool.and_self, Bool.or_self, ↓reduceIte, ne_eq, not_false_eq_true, not_true_eq_false, reduceCtorEq, Nat.reduceLT, Nat.reduceEqDiff, Nat.reduceAdd, Nat.reduceMul, Nat.reduceLeDiff, Nat.reduceDiv, Nat.reduceMod, Nat.reduceSub, Nat.reduceBEq, List.length_map, bs_len, rn_len, chs_len, chs_cnt, List.length_append, List.length_cons, List.length_nil, Ch.x, Opn.x, St.x]; done)))
    | ((with_reducible refine vCond_f ?_ ?_); (focus (simp only [lv, E1, E2, E5, ET, T, orc_mv, noO_mv, mvB, orc_bx, noO_bx, bxB, fwd, fwds, inv, mOk, Int.toNat_natCast, Nat.div_one, Nat.mul_one, Int.reduceToNat, List.not_mem_nil, true_or, or_true, true_and, and_true, decide_true, decide_false, Bool.and_self, Bool.or_self, ↓reduceIte, ne_eq, not_false_eq_true, not_true_eq_false, reduceCtorEq, Nat.reduceLT, Nat.reduceEqDiff, Nat.reduceAdd, Nat.reduceMul, Nat.reduceLeDiff, Nat.reduceDiv, Nat.reduceMod, Nat.reduceSub, Nat.reduceBEq, List.length_map, bs_len, rn_len, chs_len, chs_cnt, List.length_append, List.length_cons, List.length_nil, Ch.x, Opn.x, St.x]; done)))
    | ((with_reducible refine And.intro ?_ ?_); (focus (try omega)))
    | ((with_reducible apply orc_i); (focus (exact size1_ok _ (h.at (by omega)); done)); (generalize hk : Kt _ _ _ _ _ _ _ _ _ = k; simp only [lv, E1, E2, E5, ET, T, orc_mv, noO_mv, mvB, orc_bx, noO_bx, bxB, fwd, fwds, inv, mOk, Int.toNat_natCast, Nat.div_one, Nat.mul_one, Int.reduceToNat, List.not_mem_nil, true_or, or_true, true_and, and_true, decide_true, decide_false, Bool.and_self, Bool.or_self, ↓reduceIte, ne_eq, not_false_eq_true, not_true_eq_false, reduceCtorEq, Nat.reduceLT, Nat.reduceEqDiff, Nat.reduceAdd, Nat.reduceMul, Nat.reduceLeDiff, Nat.reduceDiv, Nat.reduceMod, Nat.reduceSub, Nat.reduceBEq, List.length_map, bs_len, rn_len, chs_len, chs_cnt, List.length_append, List.length_cons, List.length_nil, Ch.x, Opn.x, St.x]; (try simp (disch := omega) only [wrap_in, Int.toNat_natCast, tv_rn, tv_ch0, tv_ch1, tv_ch2]); subst hk))
  · refine Kl_n ⟨k + 1, by omega, by omega, ?_⟩
    rw [textN_1 (by omega)]
    simp only [Int.natCast_add, Int.natCast_one]
  · refine Kf_r ?_
    rw [List.take_of_length_le (by omega)]
    simp only [Tryd.f49, E4, E3, E2, E5, rawX, deadX, ET, T, List.not_mem_nil, true_or, or_true, true_and, and_true, decide_true, decide_false, Bool.and_self, Bool.or_self, ↓reduceIte, ne_eq, not_false_eq_true, not_true_eq_false, reduceCtorEq, Nat.reduceLT, Nat.reduceEqDiff, Nat.reduceAdd, Nat.reduceMul, Nat.reduceLeDiff, Nat.reduceDiv, Nat.reduceMod, Nat.reduceSub, Nat.reduceBEq, List.length_map, bs_len, rn_len, chs_len, chs_cnt, List.length_append, List.length_cons, List.length_nil, Ch.x, Opn.x, St.x]
set_option maxRecDepth 10000 in
theorem rooms_ok (a b c : Int) : CallOk Tryd.prog 11 [geo a b c] (.tup [.one (.v (.raw (.int .i64 (if (secF a b c).2 = 0 then 64 * a else 0)))), .one (.v (.raw (.int .i64 (if (secF a b c).2 = 0 then 54 * b else 0)))), .one (.v (.raw (.int .i64 (secF a b c).2)))]) [] true := by
  have hi : (secF a b c).2 = 0 → inS a ∧ inS b := fun h => by
    by_cases q : inS a ∧ inS b ∧ inS c
    · exact ⟨q.1, q.2.1⟩
    · rw [sec_no q] at h; exact absurd h (by decide)
  unfold inS at hi
  have hq := sectors_ok a b c
  refine fn_ok' T_ok (orc_ok _) mixed Tryd.func11 rfl (by kernel_rfl) (lv [[1], [1, 6], [1, 6, 13], [2, 3, 4], [2, 3, 4]]) 21 rfl (by simp) rfl (by simp [X.all, PX.all, TV.rawR, SV.isRaw]) ?_
  simp only [argsG, Nat.zero_add, Nat.reduceAdd]
  repeat' first
    | ((with_reducible refine vOps_cons' ?_)
       generalize hk : Kt _ _ _ _ _ _ _ _ _ = k
       simp only [Tryd.f11, lv, E1, E2, E5, ET, T, orc_mv, noO_mv, mvB, orc_bx, noO_bx, bxB, fwd, fwds, inv, mOk, Int.toNat_natCast, Nat.div_one, Nat.mul_one, Int.reduceToNat, List.not_mem_nil, true_or, or_true, true_and, and_true, decide_true, decide_false, Bool.and_self, Bool.or_self, ↓reduceIte, ne_eq, not_false_eq_true, not_true_eq_false, reduceCtorEq, Nat.reduceLT, Nat.reduceEqDiff, Nat.reduceAdd, Nat.reduceMul, Nat.reduceLeDiff, Nat.reduceDiv, Nat.reduceMod, Nat.reduceSub, Nat.reduceBEq, List.length_map, bs_len, rn_len, chs_len, chs_cnt, List.length_append, List.length_cons, List.length_nil, Ch.x, Opn.x, St.x]
       try simp (disch := omega) only [wrap_in, Int.toNat_natCast, tv_rn, tv_ch0, tv_ch1, tv_ch2]
       subst hk)
    | with_reducible refine Kt_p ?_
    | with_reducible refine Kt_i (by kernel_rfl) ?_
    | with_reducible refine Kr_f (by kernel_rfl) ?_
    | (with_reducible refine Kr_t ?_; simp only [List.length_append, List.length_cons, List.length_nil, Nat.reduceAdd, Nat.reduceSub, List.drop_succ_cons, List.drop_zero])
    | with_reducible refine vR_nil ?_
    | with_reducible refine KtR_i (by kernel_rfl) ?_
    | with_reducible refine KrR_i (by kernel_rfl) ?_
    | with_reducible refine vR_skip (by decide) ?_
    | ((with_reducible refine vR_cons (by decide) ?_)
       generalize hk : KtR _ _ _ _ _ _ _ _ _ _ = k
       simp only [Tryd.f11, lv, E1, E2, E5, ET, T, orc_mv, noO_mv, mvB, orc_bx, noO_bx, bxB, fwd, fwds, inv, mOk, Int.toNat_natCast, Nat.div_one, Nat.mul_one, Int.reduceToNat, List.not_mem_nil, true_or, or_true, true_and, and_true, decide_true, decide_false, Bool.and_self, Bool.or_self, ↓reduceIte, ne_eq, not_false_eq_true, not_true_eq_false, reduceCtorEq, Nat.reduceLT, Nat.reduceEqDiff, Nat.reduceAdd, Nat.reduceMul, Nat.reduceLeDiff, Nat.reduceDiv, Nat.reduceMod, Nat.reduceSub, Nat.reduceBEq, List.length_map, bs_len, rn_len, chs_len, chs_cnt, List.length_append, List.length_cons, List.length_nil, Ch.x, Opn.x, St.x]
       try simp (disch := omega) only [wrap_in, Int.toNat_natCast, tv_rn, tv_ch0, tv_ch1, tv_ch2]
       subst hk)
    | ((with_reducible refine vB_i ?_ ?_) <;> intro _ <;> (first | (exfalso; omega) | (exact absurd trivial ‹¬True›) | (try dsimp only [])))
    | ((with_reducible refine vOps_nil' ?_); refine Kr_i (by kernel_rfl) ?_; generalize hk : plain _ _ = G; simp only [lv, E3, E2, E5, rawX, deadX, List.not_mem_nil, true_or, or_true, true_and, and_true, decide_true, decide_false, Bool.and_self, Bool.or_self, ↓reduceIte, ne_eq, not_false_eq_true, not_true_eq_false, reduceCtorEq, Nat.reduceLT, Nat.reduceEqDiff, Nat.reduceAdd, Nat.reduceMul, Nat.reduceLeDiff, Nat.reduceDiv, Nat.reduceMod, Nat.reduceSub, Nat.reduceBEq, List.length_map, bs_len, rn_len, chs_len, chs_cnt, List.length_append, List.length_cons, List.length_nil, Ch.x, Opn.x, St.x] at hk; subst hk)
    | with_reducible refine vSeq_i ?_
    | with_reducible refine vRegion_i (by kernel_rfl) ?_
    | with_reducible refine Kv_i ?_
    | ((with_reducible apply vStrK_i); (focus (rfl; done)))
    | ((with_reducible refine imp_i ?_); intro _)
    | with_reducible refine Ks_n ?_
    | with_reducible refine Ks_r ?_
    | with_reducible refine Ks_e ?_
    | with_reducible refine Kl_e ?_
    | with_reducible refine Kx_n ?_
    | with_reducible refine Kl_r ?_
    | with_reducible refine vRet_i ?_
    | with_reducible refine vSkip_i ?_
    | with_reducible refine vExit_i ?_
    | with_reducible refine vBlock_i ?_
    | with_reducible refine Ks_p ?_
    | with_reducible refine Kl_p ?_
    | with_reducible refine blk_p ?_
    | with_reducible exact Kb_p
    | with_reducible refine vGoto_i ?_
    | with_reducible refine vLabel_i ?_
    | with_reducible refine Ks_g ?_
    | with_reducible refine Kl_g ?_
    | with_reducible refine blk_g ?_
    | with_reducible refine jmp_g ?_
    | with_reducible refine jmp_n ?_
    | with_reducible refine jmp_r ?_
    | with_reducible refine nog_n ?_
    | with_reducible refine nog_r ?_
    | with_reducible refine blk_n ?_
    | with_reducible refine blk_r ?_
    | with_reducible refine blk_e ?_
    | with_reducible refine blk_o (by decide) ?_
    | ((with_reducible refine vCond_t ?_ ?_); (focus (simp only [lv, E1, E2, E5, ET, T, orc_mv, noO_mv, mvB, orc_bx, noO_bx, bxB, fwd, fwds, inv, mOk, Int.toNat_natCast, Nat.div_one, Nat.mul_one, Int.reduceToNat, List.not_mem_nil, true_or, or_true, true_and, and_true, decide_true, decide_false, Bool.and_self, Bool.or_self, ↓reduceIte, ne_eq, not_false_eq_true, not_true_eq_false, reduceCtorEq, Nat.reduceLT, Nat.reduceEqDiff, Nat.reduceAdd, Nat.reduceMul, Nat.reduceLeDiff, Nat.reduceDiv, Nat.reduceMod, Nat.reduceSub, Nat.reduceBEq, List.length_map, bs_len, rn_len, chs_len, chs_cnt, List.length_append, List.length_cons, List.length_nil, Ch.x, Opn.x, St.x]; done)))
    | ((with_reducible refine vCond_f ?_ ?_); (focus (simp only [lv, E1, E2, E5, ET, T, orc_mv, noO_mv, mvB, orc_bx, noO_bx, bxB, fwd, fwds, inv, mOk, Int.toNat_natCast, Nat.div_one, Nat.mul_one, Int.reduceToNat, List.not_mem_nil, true_or, or_true, true_and, and_true, decide_true, decide_false, Bool.and_self, Bool.or_self, ↓reduceIte, ne_eq, not_false_eq_true, not_true_eq_false, reduceCtorEq, Nat.reduceLT, Nat.reduceEqDiff, Nat.reduceAdd, Nat.reduceMul, Nat.reduceLeDiff, Nat.reduceDiv, Nat.reduceMod, Nat.reduceSub, Nat.reduceBEq, List.length_map, bs_len, rn_len, chs_len, chs_cnt, List.length_append, List.length_cons, List.length_nil, Ch.x, Opn.x, St.x]; done)))
    | ((with_reducible refine And.intro ?_ ?_); (focus (try omega)))
    | ((with_reducible apply orc_i); (focus (exact hq; done)); (generalize hk : Kt _ _ _ _ _ _ _ _ _ = k; simp only [lv, E1, E2, E5, ET, T, orc_mv, noO_mv, mvB, orc_bx, noO_bx, bxB, fwd, fwds, inv, mOk, Int.toNat_natCast, Nat.div_one, Nat.mul_one, Int.reduceToNat, List.not_mem_nil, true_or, or_true, true_and, and_true, decide_true, decide_false, Bool.and_self, Bool.or_self, ↓reduceIte, ne_eq, not_false_eq_true, not_true_eq_false, reduceCtorEq, Nat.reduceLT, Nat.reduceEqDiff, Nat.reduceAdd, Nat.reduceMul, Nat.reduceLeDiff, Nat.reduceDiv, Nat.reduceMod, Nat.reduceSub, Nat.reduceBEq, List.length_map, bs_len, rn_len, chs_len, chs_cnt, List.length_append, List.length_cons, List.length_nil, Ch.x, Opn.x, St.x]; (try simp (disch := omega) only [wrap_in, Int.toNat_natCast, tv_rn, tv_ch0, tv_ch1, tv_ch2]); subst hk))
  · rename_i k
    refine Kf_r ?_
    simp only [Tryd.f11, E4, E3, E2, E5, rawX, deadX, ET, T, List.not_mem_nil, true_or, or_true, true_and, and_true, decide_true, decide_false, Bool.and_self, Bool.or_self, ↓reduceIte, ne_eq, not_false_eq_true, not_true_eq_false, reduceCtorEq, Nat.reduceLT, Nat.reduceEqDiff, Nat.reduceAdd, Nat.reduceMul, Nat.reduceLeDiff, Nat.reduceDiv, Nat.reduceMod, Nat.reduceSub, Nat.reduceBEq, List.length_map, bs_len, rn_len, chs_len, chs_cnt, List.length_append, List.length_cons, List.length_nil, Ch.x, Opn.x, St.x, if_pos k, k]
  · rename_i k
    refine Kf_r ?_
    simp only [Tryd.f11, E4, E3, E2, E5, rawX, deadX, ET, T, List.not_mem_nil, true_or, or_true, true_and, and_true, decide_true, decide_false, Bool.and_self, Bool.or_self, ↓reduceIte, ne_eq, not_false_eq_true, not_true_eq_false, reduceCtorEq, Nat.reduceLT, Nat.reduceEqDiff, Nat.reduceAdd, Nat.reduceMul, Nat.reduceLeDiff, Nat.reduceDiv, Nat.reduceMod, Nat.reduceSub, Nat.reduceBEq, List.length_map, bs_len, rn_len, chs_len, chs_cnt, List.length_append, List.length_cons, List.length_nil, Ch.x, Opn.x, St.x, if_neg k]
set_option maxRecDepth 10000 in
theorem rcostOp_ok (o : Opn) (h : R32s o.text) (hl : o.text.length ≤ 2000000) : CallOk Tryd.prog 13 [o.x] (.tup [.one (.v (.raw (.int .i64 (opC o)))), .one (.v (.raw (.int .i64 (opF o).2)))]) [] true := by
  have hq := rop_ok o h hl
  have hle := opF_le o
  simp only [Opn.x] at hq
  refine fn_ok' T_ok (orc_ok _) mixed Tryd.func13 rfl (by kernel_rfl) (lv [[1], [4, 5], [4, 5, 12], [2, 3], [2, 3]]) 17 rfl (by simp) rfl (by simp [X.all, PX.all, TV.rawR, SV.isRaw]) ?_
  simp only [argsG, Nat.zero_add, Nat.reduceAdd, Opn.x]
  repeat' first
    | ((with_reducible refine vOps_cons' ?_)
       generalize hk : Kt _ _ _ _ _ _ _ _ _ = k
       simp only [Tryd.f13, lv, E1, E2, E5, ET, T, orc_mv, noO_mv, mvB, orc_bx, noO_bx, bxB, fwd, fwds, inv, mOk, Int.toNat_natCast, Nat.div_one, Nat.mul_one, Int.reduceToNat, List.not_mem_nil, true_or, or_true, true_and, and_true, decide_true, decide_false, Bool.and_self, Bool.or_self, ↓reduceIte, ne_eq, not_false_eq_true, not_true_eq_false, reduceCtorEq, Nat.reduceLT, Nat.reduceEqDiff, Nat.reduceAdd, Nat.reduceMul, Nat.reduceLeDiff, Nat.reduceDiv, Nat.reduceMod, Nat.reduceSub, Nat.reduceBEq, List.length_map, bs_len, rn_len, chs_len, chs_cnt, List.length_append, List.length_cons, List.length_nil, Ch.x, Opn.x, St.x]
       try simp (disch := omega) only [wrap_in, Int.toNat_natCast, tv_rn, tv_ch0, tv_ch1, tv_ch2]
       subst hk)
    | with_reducible refine Kt_p ?_
    | with_reducible refine Kt_i (by kernel_rfl) ?_
    | with_reducible refine Kr_f (by kernel_rfl) ?_
    | (with_reducible refine Kr_t ?_; simp only [List.length_append, List.length_cons, List.length_nil, Nat.reduceAdd, Nat.reduceSub, List.drop_succ_cons, List.drop_zero])
    | with_reducible refine vR_nil ?_
    | with_reducible refine KtR_i (by kernel_rfl) ?_
    | with_reducible refine KrR_i (by kernel_rfl) ?_
    | with_reducible refine vR_skip (by decide) ?_
    | ((with_reducible refine vR_cons (by decide) ?_)
       generalize hk : KtR _ _ _ _ _ _ _ _ _ _ = k
       simp only [Tryd.f13, lv, E1, E2, E5, ET, T, orc_mv, noO_mv, mvB, orc_bx, noO_bx, bxB, fwd, fwds, inv, mOk, Int.toNat_natCast, Nat.div_one, Nat.mul_one, Int.reduceToNat, List.not_mem_nil, true_or, or_true, true_and, and_true, decide_true, decide_false, Bool.and_self, Bool.or_self, ↓reduceIte, ne_eq, not_false_eq_true, not_true_eq_false, reduceCtorEq, Nat.reduceLT, Nat.reduceEqDiff, Nat.reduceAdd, Nat.reduceMul, Nat.reduceLeDiff, Nat.reduceDiv, Nat.reduceMod, Nat.reduceSub, Nat.reduceBEq, List.length_map, bs_len, rn_len, chs_len, chs_cnt, List.length_append, List.length_cons, List.length_nil, Ch.x, Opn.x, St.x]
       try simp (disch := omega) only [wrap_in, Int.toNat_natCast, tv_rn, tv_ch0, tv_ch1, tv_ch2]
       subst hk)
    | ((with_reducible refine vB_i ?_ ?_) <;> intro _ <;> (first | (exfalso; omega) | (exact absurd trivial ‹¬True›) | (try dsimp only [])))
    | ((with_reducible refine vOps_nil' ?_); refine Kr_i (by kernel_rfl) ?_; generalize hk : plain _ _ = G; simp only [lv, E3, E2, E5, rawX, deadX, List.not_mem_nil, true_or, or_true, true_and, and_true, decide_true, decide_false, Bool.and_self, Bool.or_self, ↓reduceIte, ne_eq, not_false_eq_true, not_true_eq_false, reduceCtorEq, Nat.reduceLT, Nat.reduceEqDiff, Nat.reduceAdd, Nat.reduceMul, Nat.reduceLeDiff, Nat.reduceDiv, Nat.reduceMod, Nat.reduceSub, Nat.reduceBEq, List.length_map, bs_len, rn_len, chs_len, chs_cnt, List.length_append, List.length_cons, List.length_nil, Ch.x, Opn.x, St.x] at hk; subst hk)
    | with_reducible refine vSeq_i ?_
    | with_reducible refine vRegion_i (by kernel_rfl) ?_
    | with_reducible refine Kv_i ?_
    | ((with_reducible apply vStrK_i); (focus (rfl; done)))
    | ((with_reducible refine imp_i ?_); intro _)
    | with_reducible refine Ks_n ?_
    | with_reducible refine Ks_r ?_
    | with_reducible refine Ks_e ?_
    | with_reducible refine Kl_e ?_
    | with_reducible refine Kx_n ?_
    | with_reducible refine Kl_r ?_
    | with_reducible refine vRet_i ?_
    | with_reducible refine vSkip_i ?_
    | with_reducible refine vExit_i ?_
    | with_reducible refine vBlock_i ?_
    | with_reducible refine Ks_p ?_
    | with_reducible refine Kl_p ?_
    | with_reducible refine blk_p ?_
    | with_reducible exact Kb_p
    | with_reducible refine vGoto_i ?_
    | with_reducible refine vLabel_i ?_
    | with_reducible refine Ks_g ?_
    | with_reducible refine Kl_g ?_
    | with_reducible refine blk_g ?_
    | with_reducible refine jmp_g ?_
    | with_reducible refine jmp_n ?_
    | with_reducible refine jmp_r ?_
    | with_reducible refine nog_n ?_
    | with_reducible refine nog_r ?_
    | with_reducible refine blk_n ?_
    | with_reducible refine blk_r ?_
    | with_reducible refine blk_e ?_
    | with_reducible refine blk_o (by decide) ?_
    | ((with_reducible refine vCond_t ?_ ?_); (focus (simp only [lv, E1, E2, E5, ET, T, orc_mv, noO_mv, mvB, orc_bx, noO_bx, bxB, fwd, fwds, inv, mOk, Int.toNat_natCast, Nat.div_one, Nat.mul_one, Int.reduceToNat, List.not_mem_nil, true_or, or_true, true_and, and_true, decide_true, decide_false, Bool.and_self, Bool.or_self, ↓reduceIte, ne_eq, not_false_eq_true, not_true_eq_false, reduceCtorEq, Nat.reduceLT, Nat.reduceEqDiff, Nat.reduceAdd, Nat.reduceMul, Nat.reduceLeDiff, Nat.reduceDiv, Nat.reduceMod, Nat.reduceSub, Nat.reduceBEq, List.length_map, bs_len, rn_len, chs_len, chs_cnt, List.length_append, List.length_cons, List.length_nil, Ch.x, Opn.x, St.x]; done)))
    | ((with_reducible refine vCond_f ?_ ?_); (focus (simp only [lv, E1, E2, E5, ET, T, orc_mv, noO_mv, mvB, orc_bx, noO_bx, bxB, fwd, fwds, inv, mOk, Int.toNat_natCast, Nat.div_one, Nat.mul_one, Int.reduceToNat, List.not_mem_nil, true_or, or_true, true_and, and_true, decide_true, decide_false, Bool.and_self, Bool.or_self, ↓reduceIte, ne_eq, not_false_eq_true, not_true_eq_false, reduceCtorEq, Nat.reduceLT, Nat.reduceEqDiff, Nat.reduceAdd, Nat.reduceMul, Nat.reduceLeDiff, Nat.reduceDiv, Nat.reduceMod, Nat.reduceSub, Nat.reduceBEq, List.length_map, bs_len, rn_len, chs_len, chs_cnt, List.length_append, List.length_cons, List.length_nil, Ch.x, Opn.x, St.x]; done)))
    | ((with_reducible refine And.intro ?_ ?_); (focus (try omega)))
    | ((with_reducible apply orc_i); (focus (exact hq; done)); (generalize hk : Kt _ _ _ _ _ _ _ _ _ = k; simp only [lv, E1, E2, E5, ET, T, orc_mv, noO_mv, mvB, orc_bx, noO_bx, bxB, fwd, fwds, inv, mOk, Int.toNat_natCast, Nat.div_one, Nat.mul_one, Int.reduceToNat, List.not_mem_nil, true_or, or_true, true_and, and_true, decide_true, decide_false, Bool.and_self, Bool.or_self, ↓reduceIte, ne_eq, not_false_eq_true, not_true_eq_false, reduceCtorEq, Nat.reduceLT, Nat.reduceEqDiff, Nat.reduceAdd, Nat.reduceMul, Nat.reduceLeDiff, Nat.reduceDiv, Nat.reduceMod, Nat.reduceSub, Nat.reduceBEq, List.length_map, bs_len, rn_len, chs_len, chs_cnt, List.length_append, List.length_cons, List.length_nil, Ch.x, Opn.x, St.x]; (try simp (disch := omega) only [wrap_in, Int.toNat_natCast, tv_rn, tv_ch0, tv_ch1, tv_ch2]); subst hk))
  · rename_i k
    refine Kf_r ?_
    simp only [Tryd.f13, E4, E3, E2, E5, rawX, deadX, ET, T, List.not_mem_nil, true_or, or_true, true_and, and_true, decide_true, decide_false, Bool.and_self, Bool.or_self, ↓reduceIte, ne_eq, not_false_eq_true, not_true_eq_false, reduceCtorEq, Nat.reduceLT, Nat.reduceEqDiff, Nat.reduceAdd, Nat.reduceMul, Nat.reduceLeDiff, Nat.reduceDiv, Nat.reduceMod, Nat.reduceSub, Nat.reduceBEq, List.length_map, bs_len, rn_len, chs_len, chs_cnt, List.length_append, List.length_cons, List.length_nil, Ch.x, Opn.x, St.x, opC, if_pos k, k]
  · rename_i k
    refine Kf_r ?_
    simp only [Tryd.f13, E4, E3, E2, E5, rawX, deadX, ET, T, List.not_mem_nil, true_or, or_true, true_and, and_true, decide_true, decide_false, Bool.and_self, Bool.or_self, ↓reduceIte, ne_eq, not_false_eq_true, not_true_eq_false, reduceCtorEq, Nat.reduceLT, Nat.reduceEqDiff, Nat.reduceAdd, Nat.reduceMul, Nat.reduceLeDiff, Nat.reduceDiv, Nat.reduceMod, Nat.reduceSub, Nat.reduceBEq, List.length_map, bs_len, rn_len, chs_len, chs_cnt, List.length_append, List.length_cons, List.length_nil, Ch.x, Opn.x, St.x, opC, if_neg k]
end Go.Proofs.YtdpflafjfkooeaaDoorG
