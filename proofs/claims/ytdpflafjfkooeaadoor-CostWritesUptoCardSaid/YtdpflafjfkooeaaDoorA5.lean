import Derived.Test.YtdpflafjfkooeaaDoorA4
namespace Go.Proofs.YtdpflafjfkooeaaDoorG
open Go Go.RowKit Go.Proofs
set_option linter.unusedSimpArgs false
/-- A change may be done to a text. -/
def Ch.good (c : Ch) (t : List Int) : Prop := scal c.gone ∧ scal c.came ∧ c.fits t
instance (c : Ch) (t : List Int) : Decidable (c.good t) := by unfold Ch.good; infer_instance
theorem Ch.done_len {c : Ch} {t : List Int} (h : c.fits t) : (c.done t).length = t.length - c.gone.length + c.came.length := by
  obtain ⟨h1, h2, h3, h4⟩ := h
  simp only [Ch.done, List.length_append, List.length_take, List.length_drop]; omega
theorem orc_c {P : Program} {f args K} {p : Prop} [Decidable p] {x1 x2 r1 r2 fr} (h : CallOk P f args (if p then x1 else x2) (if p then r1 else r2) fr) (h1 : p → K x1 r1 fr) (h2 : ¬ p → K x2 r2 fr) : (orc P).f f args K := by
  refine ⟨_, _, _, h, ?_⟩
  by_cases hp : p
  · simpa only [if_pos hp] using h1 hp
  · simpa only [if_neg hp] using h2 hp
theorem stands_iff {t g : List Int} {a : Int} (h0 : 0 ≤ a) (h1 : a + g.length ≤ t.length) : (t.drop a.toNat).take g.length = g ↔ ∀ k, k < g.length → t.getD (a + k).toNat 0 = g.getD k 0 := by
  constructor
  · intro h k hk
    have := congrArg (fun l => l[k]?) h
    simp only [List.getElem?_take, if_pos hk, List.getElem?_drop] at this
    simp only [List.getD, show (a + (k : Int)).toNat = a.toNat + k by omega, this]
  · intro h
    refine List.ext_getElem (by simp; omega) fun k h2 h3 => ?_
    have := h k h3
    have e : t.getD (a + (k : Int)).toNat 0 = t[a.toNat + k]'(by omega) := by
      rw [show (a + (k : Int)).toNat = a.toNat + k by omega]; simp [List.getD, List.getElem?_eq_getElem (show a.toNat + k < t.length by omega)]
    rw [e] at this
    simp only [List.getElem_take, List.getElem_drop, this]
    simp [List.getD, List.getElem?_eq_getElem h3]
set_option maxRecDepth 10000 in
set_option maxHeartbeats 4000000 in
theorem refDone_ok (t : List Int) (c : Ch) (ht : t.length ≤ 1000000) (hc1 : c.gone.length ≤ 1000000) (hc2 : c.came.length ≤ 1000000) (r1 : R32s c.gone) (r2 : R32s c.came) : CallOk Tryd.prog 47 [sl (rn t), c.x]
    (.tup [.one (.sr 0), .one (.v (.raw (.bool (decide (c.good t ∧ (c.done t).length ≤ 4096)))))]) [(21, 1, rn (if c.good t then c.done t else []))] true := by
  refine fn_ok' T_ok (orc_ok _) mixed Tryd.func47 rfl (by kernel_rfl) (lv [[0, 3], [0, 3, 40], [4, 5], [0, 3, 6], [0, 3, 6, 45], [0, 3, 6], [0, 3, 6, 60], [4, 5], [7], [4, 5]]) 77 rfl (by simp) rfl (fun _ => ⟨rfl, fun r hr => by simp at hr; subst hr; exact rn_raw⟩) ?_
  simp only [argsG, Nat.zero_add, Nat.reduceAdd, Ch.x]
  repeat' first
    | ((with_reducible refine vOps_cons' ?_)
       generalize hk : Kt _ _ _ _ _ _ _ _ _ = k
       simp only [Tryd.f47, lv, E1, E2, E5, ET, T, orc_mv, noO_mv, mvB, orc_bx, noO_bx, bxB, fwd, fwds, inv, mOk, Int.toNat_natCast, Nat.div_one, Nat.mul_one, Int.reduceToNat, List.not_mem_nil, true_or, or_true, true_and, and_true, decide_true, decide_false, Bool.and_self, Bool.or_self, ↓reduceIte, ne_eq, not_false_eq_true, not_true_eq_false, reduceCtorEq, Nat.reduceLT, Nat.reduceEqDiff, Nat.reduceAdd, Nat.reduceMul, Nat.reduceLeDiff, Nat.reduceDiv, Nat.reduceMod, Nat.reduceSub, Nat.reduceBEq, rn_len, List.length_map, Ch.x, cut_rn, take_drop_len, List.length_append, List.length_take, List.length_drop, ← rn_app, Int.sub_zero]
       try simp (disch := omega) only [wrap_in, Int.toNat_natCast, tv_rn]
       subst hk)
    | with_reducible refine Kt_p ?_
    | with_reducible refine Kt_i (by kernel_rfl) ?_
    | with_reducible refine Kr_f (by kernel_rfl) ?_
    | (with_reducible refine Kr_t ?_; simp only [List.length_append, List.length_cons, List.length_nil, Nat.reduceAdd, Nat.reduceSub, List.drop_succ_cons, List.drop_zero])
    | with_reducible refine vR_nil ?_
    | with_reducible refine KtR_i (by kernel_rfl) ?_
    | with_reducible refine KrR_i (by kernel_rfl) ?_
    | with_reducible refine vR_skip (by decide) ?_
    | ((with_reducible refine vR_cons (by decide) ?_)
       generalize hk : KtR _ _ _ _ _ _ _ _ _ _ = k
       simp only [Tryd.f47, lv, E1, E2, E5, ET, T, orc_mv, noO_mv, mvB, orc_bx, noO_bx, bxB, fwd, fwds, inv, mOk, Int.toNat_natCast, Nat.div_one, Nat.mul_one, Int.reduceToNat, List.not_mem_nil, true_or, or_true, true_and, and_true, decide_true, decide_false, Bool.and_self, Bool.or_self, ↓reduceIte, ne_eq, not_false_eq_true, not_true_eq_false, reduceCtorEq, Nat.reduceLT, Nat.reduceEqDiff, Nat.reduceAdd, Nat.reduceMul, Nat.reduceLeDiff, Nat.reduceDiv, Nat.reduceMod, Nat.reduceSub, Nat.reduceBEq, rn_len, List.length_map, Ch.x, cut_rn, take_drop_len, List.length_append, List.length_take, List.length_drop, ← rn_app, Int.sub_zero]
       try simp (disch := omega) only [wrap_in, Int.toNat_natCast, tv_rn]
       subst hk)
    | ((with_reducible refine vB_i ?_ ?_) <;> intro _ <;> (first | (exfalso; omega) | (exact absurd trivial ‹¬True›) | (try dsimp only [])))
    | ((with_reducible refine vOps_nil' ?_); refine Kr_i (by kernel_rfl) ?_; generalize hk : plain _ _ = G; simp only [lv, E3, E2, E5, rawX, deadX, List.not_mem_nil, true_or, or_true, true_and, and_true, decide_true, decide_false, Bool.and_self, Bool.or_self, ↓reduceIte, ne_eq, not_false_eq_true, not_true_eq_false, reduceCtorEq, Nat.reduceLT, Nat.reduceEqDiff, Nat.reduceAdd, Nat.reduceMul, Nat.reduceLeDiff, Nat.reduceDiv, Nat.reduceMod, Nat.reduceSub, Nat.reduceBEq, rn_len, List.length_map, Ch.x, cut_rn, take_drop_len, List.length_append, List.length_take, List.length_drop, ← rn_app, Int.sub_zero] at hk; subst hk)
    | with_reducible refine vSeq_i ?_
    | with_reducible refine vRegion_i (by kernel_rfl) ?_
    | with_reducible refine Kv_i ?_
    | ((with_reducible apply vStrK_i); (focus (rfl; done)))
    | ((with_reducible refine imp_i ?_); intro _)
    | with_reducible refine Ks_n ?_
    | with_reducible refine Ks_r ?_
    | with_reducible refine Ks_e ?_
    | with_reducible refine Kl_e ?_
    | with_reducible refine Kx_n ?_
    | with_reducible refine Kl_r ?_
    | with_reducible refine vRet_i ?_
    | with_reducible refine vSkip_i ?_
    | with_reducible refine vExit_i ?_
    | with_reducible refine vBlock_i ?_
    | with_reducible refine Ks_p ?_
    | with_reducible refine Kl_p ?_
    | with_reducible refine blk_p ?_
    | with_reducible exact Kb_p
    | with_reducible refine vGoto_i ?_
    | with_reducible refine vLabel_i ?_
    | with_reducible refine Ks_g ?_
    | with_reducible refine Kl_g ?_
    | with_reducible refine blk_g ?_
    | with_reducible refine jmp_g ?_
    | with_reducible refine jmp_n ?_
    | with_reducible refine jmp_r ?_
    | with_reducible refine nog_n ?_
    | with_reducible refine nog_r ?_
    | with_reducible refine blk_n ?_
    | with_reducible refine blk_r ?_
    | with_reducible refine blk_e ?_
    | with_reducible refine blk_o (by decide) ?_
    | ((with_reducible refine vCond_t ?_ ?_); (focus (simp only [lv, E1, E2, E5, ET, T, orc_mv, noO_mv, mvB, orc_bx, noO_bx, bxB, fwd, fwds, inv, mOk, Int.toNat_natCast, Nat.div_one, Nat.mul_one, Int.reduceToNat, List.not_mem_nil, true_or, or_true, true_and, and_true, decide_true, decide_false, Bool.and_self, Bool.or_self, ↓reduceIte, ne_eq, not_false_eq_true, not_true_eq_false, reduceCtorEq, Nat.reduceLT, Nat.reduceEqDiff, Nat.reduceAdd, Nat.reduceMul, Nat.reduceLeDiff, Nat.reduceDiv, Nat.reduceMod, Nat.reduceSub, Nat.reduceBEq, rn_len, List.length_map, Ch.x, cut_rn, take_drop_len, List.length_append, List.length_take, List.length_drop, ← rn_app, Int.sub_zero]; done)))
    | ((with_reducible refine vCond_f ?_ ?_); (focus (simp only [lv, E1, E2, E5, ET, T, orc_mv, noO_mv, mvB, orc_bx, noO_bx, bxB, fwd, fwds, inv, mOk, Int.toNat_natCast, Nat.div_one, Nat.mul_one, Int.reduceToNat, List.not_mem_nil, true_or, or_true, true_and, and_true, decide_true, decide_false, Bool.and_self, Bool.or_self, ↓reduceIte, ne_eq, not_false_eq_true, not_true_eq_false, reduceCtorEq, Nat.reduceLT, Nat.reduceEqDiff, Nat.reduceAdd, Nat.reduceMul, Nat.reduceLeDiff, Nat.reduceDiv, Nat.reduceMod, Nat.reduceSub, Nat.reduceBEq, rn_len, List.length_map, Ch.x, cut_rn, take_drop_len, List.length_append, List.length_take, List.length_drop, ← rn_app, Int.sub_zero]; done)))
    | ((with_reducible refine And.intro ?_ ?_); (focus (try omega)))
    | ((with_reducible apply orc_b); (focus (with_reducible exact scal1_ok _ r1 (by omega); done)); (all_goals (intro hb; (try simp only [decide_eq_true_eq, decide_eq_false_iff_not, Bool.not_eq_true', Bool.not_eq_false', Bool.and_eq_true, Decidable.not_not] at hb); (generalize hk : Kt _ _ _ _ _ _ _ _ _ = k; simp only [lv, E1, E2, E5, ET, T, orc_mv, noO_mv, mvB, orc_bx, noO_bx, bxB, fwd, fwds, inv, mOk, Int.toNat_natCast, Nat.div_one, Nat.mul_one, Int.reduceToNat, List.not_mem_nil, true_or, or_true, true_and, and_true, decide_true, decide_false, Bool.and_self, Bool.or_self, ↓reduceIte, ne_eq, not_false_eq_true, not_true_eq_false, reduceCtorEq, Nat.reduceLT, Nat.reduceEqDiff, Nat.reduceAdd, Nat.reduceMul, Nat.reduceLeDiff, Nat.reduceDiv, Nat.reduceMod, Nat.reduceSub, Nat.reduceBEq, rn_len, List.length_map, Ch.x, cut_rn, take_drop_len, List.length_append, List.length_take, List.length_drop, ← rn_app, Int.sub_zero]; (try simp (disch := omega) only [wrap_in, Int.toNat_natCast, tv_rn]); subst hk))))
    | ((with_reducible apply orc_b); (focus (with_reducible exact scal1_ok _ r2 (by omega); done)); (all_goals (intro hb; (try simp only [decide_eq_true_eq, decide_eq_false_iff_not, Bool.not_eq_true', Bool.not_eq_false', Bool.and_eq_true, Decidable.not_not] at hb); (generalize hk : Kt _ _ _ _ _ _ _ _ _ = k; simp only [lv, E1, E2, E5, ET, T, orc_mv, noO_mv, mvB, orc_bx, noO_bx, bxB, fwd, fwds, inv, mOk, Int.toNat_natCast, Nat.div_one, Nat.mul_one, Int.reduceToNat, List.not_mem_nil, true_or, or_true, true_and, and_true, decide_true, decide_false, Bool.and_self, Bool.or_self, ↓reduceIte, ne_eq, not_false_eq_true, not_true_eq_false, reduceCtorEq, Nat.reduceLT, Nat.reduceEqDiff, Nat.reduceAdd, Nat.reduceMul, Nat.reduceLeDiff, Nat.reduceDiv, Nat.reduceMod, Nat.reduceSub, Nat.reduceBEq, rn_len, List.length_map, Ch.x, cut_rn, take_drop_len, List.length_append, List.length_take, List.length_drop, ← rn_app, Int.sub_zero]; (try simp (disch := omega) only [wrap_in, Int.toNat_natCast, tv_rn]); subst hk))))
  all_goals try
    ((have hg : ¬ c.good t := by
        rintro ⟨g1, g2, g3, g4, g5, g6⟩
        first | contradiction | omega)
     rw [if_neg hg, decide_eq_false (fun h => hg h.1)]
     refine Kf_r ?_
     simp only [Tryd.f47, E4, E3, E2, E5, rawX, deadX, ET, T, List.not_mem_nil, true_or, or_true, true_and, and_true, decide_true, decide_false, Bool.and_self, Bool.or_self, ↓reduceIte, ne_eq, not_false_eq_true, not_true_eq_false, reduceCtorEq, Nat.reduceLT, Nat.reduceEqDiff, Nat.reduceAdd, Nat.reduceMul, Nat.reduceLeDiff, Nat.reduceDiv, Nat.reduceMod, Nat.reduceSub, Nat.reduceBEq, rn_len, List.length_map, Ch.x, cut_rn, take_drop_len, List.length_append, List.length_take, List.length_drop, ← rn_app, Int.sub_zero, rn, List.map_nil]
     done)
  rename_i hs1 h3 h4 h5
  have e5 : c.at_ + c.gone.length ≤ t.length := by omega
  refine vLoop_s (fun k : Nat => [(.t 0, .t (sl (rn t))), (.t 3, .t (.p (.one (.pr 0 0)))), (.t 6, .t (i64 k)), (.box 0, .box 64 [.v (.raw (.int .i64 c.at_)), .v (.sl 1 (rn c.gone)), .v (.sl 1 (rn c.came))])]) (fun k => k ≤ c.gone.length ∧ ∀ i : Nat, i < k → t.getD (c.at_ + i).toNat 0 = c.gone.getD i 0) (fun k => c.gone.length - k) 0 ⟨by omega, by omega⟩ rfl ?_
  rintro k ⟨hk, hlt⟩
  repeat' first
    | ((with_reducible refine vOps_cons' ?_)
       generalize hk : Kt _ _ _ _ _ _ _ _ _ = k
       simp only [Tryd.f47, lv, E1, E2, E5, ET, T, orc_mv, noO_mv, mvB, orc_bx, noO_bx, bxB, fwd, fwds, inv, mOk, Int.toNat_natCast, Nat.div_one, Nat.mul_one, Int.reduceToNat, List.not_mem_nil, true_or, or_true, true_and, and_true, decide_true, decide_false, Bool.and_self, Bool.or_self, ↓reduceIte, ne_eq, not_false_eq_true, not_true_eq_false, reduceCtorEq, Nat.reduceLT, Nat.reduceEqDiff, Nat.reduceAdd, Nat.reduceMul, Nat.reduceLeDiff, Nat.reduceDiv, Nat.reduceMod, Nat.reduceSub, Nat.reduceBEq, rn_len, List.length_map, Ch.x, cut_rn, take_drop_len, List.length_append, List.length_take, List.length_drop, ← rn_app, Int.sub_zero]
       try simp (disch := omega) only [wrap_in, Int.toNat_natCast, tv_rn]
       subst hk)
    | with_reducible refine Kt_p ?_
    | with_reducible refine Kt_i (by kernel_rfl) ?_
    | with_reducible refine Kr_f (by kernel_rfl) ?_
    | (with_reducible refine Kr_t ?_; simp only [List.length_append, List.length_cons, List.length_nil, Nat.reduceAdd, Nat.reduceSub, List.drop_succ_cons, List.drop_zero])
    | with_reducible refine vR_nil ?_
    | with_reducible refine KtR_i (by kernel_rfl) ?_
    | with_reducible refine KrR_i (by kernel_rfl) ?_
    | with_reducible refine vR_skip (by decide) ?_
    | ((with_reducible refine vR_cons (by decide) ?_)
       generalize hk : KtR _ _ _ _ _ _ _ _ _ _ = k
       simp only [Tryd.f47, lv, E1, E2, E5, ET, T, orc_mv, noO_mv, mvB, orc_bx, noO_bx, bxB, fwd, fwds, inv, mOk, Int.toNat_natCast, Nat.div_one, Nat.mul_one, Int.reduceToNat, List.not_mem_nil, true_or, or_true, true_and, and_true, decide_true, decide_false, Bool.and_self, Bool.or_self, ↓reduceIte, ne_eq, not_false_eq_true, not_true_eq_false, reduceCtorEq, Nat.reduceLT, Nat.reduceEqDiff, Nat.reduceAdd, Nat.reduceMul, Nat.reduceLeDiff, Nat.reduceDiv, Nat.reduceMod, Nat.reduceSub, Nat.reduceBEq, rn_len, List.length_map, Ch.x, cut_rn, take_drop_len, List.length_append, List.length_take, List.length_drop, ← rn_app, Int.sub_zero]
       try simp (disch := omega) only [wrap_in, Int.toNat_natCast, tv_rn]
       subst hk)
    | ((with_reducible refine vB_i ?_ ?_) <;> intro _ <;> (first | (exfalso; omega) | (exact absurd trivial ‹¬True›) | (try dsimp only [])))
    | ((with_reducible refine vOps_nil' ?_); refine Kr_i (by kernel_rfl) ?_; generalize hk : plain _ _ = G; simp only [lv, E3, E2, E5, rawX, deadX, List.not_mem_nil, true_or, or_true, true_and, and_true, decide_true, decide_false, Bool.and_self, Bool.or_self, ↓reduceIte, ne_eq, not_false_eq_true, not_true_eq_false, reduceCtorEq, Nat.reduceLT, Nat.reduceEqDiff, Nat.reduceAdd, Nat.reduceMul, Nat.reduceLeDiff, Nat.reduceDiv, Nat.reduceMod, Nat.reduceSub, Nat.reduceBEq, rn_len, List.length_map, Ch.x, cut_rn, take_drop_len, List.length_append, List.length_take, List.length_drop, ← rn_app, Int.sub_zero] at hk; subst hk)
    | with_reducible refine vSeq_i ?_
    | with_reducible refine vRegion_i (by kernel_rfl) ?_
    | with_reducible refine Kv_i ?_
    | ((with_reducible apply vStrK_i); (focus (rfl; done)))
    | ((with_reducible refine imp_i ?_); intro _)
    | with_reducible refine Ks_n ?_
    | with_reducible refine Ks_r ?_
    | with_reducible refine Ks_e ?_
    | with_reducible refine Kl_e ?_
    | with_reducible refine Kx_n ?_
    | with_reducible refine Kl_r ?_
    | with_reducible refine vRet_i ?_
    | with_reducible refine vSkip_i ?_
    | with_reducible refine vExit_i ?_
    | with_reducible refine vBlock_i ?_
    | with_reducible refine Ks_p ?_
    | with_reducible refine Kl_p ?_
    | with_reducible refine blk_p ?_
    | with_reducible exact Kb_p
    | with_reducible refine vGoto_i ?_
    | with_reducible refine vLabel_i ?_
    | with_reducible refine Ks_g ?_
    | with_reducible refine Kl_g ?_
    | with_reducible refine blk_g ?_
    | with_reducible refine jmp_g ?_
    | with_reducible refine jmp_n ?_
    | with_reducible refine jmp_r ?_
    | with_reducible refine nog_n ?_
    | with_reducible refine nog_r ?_
    | with_reducible refine blk_n ?_
    | with_reducible refine blk_r ?_
    | with_reducible refine blk_e ?_
    | with_reducible refine blk_o (by decide) ?_
    | ((with_reducible refine vCond_t ?_ ?_); (focus (simp only [lv, E1, E2, E5, ET, T, orc_mv, noO_mv, mvB, orc_bx, noO_bx, bxB, fwd, fwds, inv, mOk, Int.toNat_natCast, Nat.div_one, Nat.mul_one, Int.reduceToNat, List.not_mem_nil, true_or, or_true, true_and, and_true, decide_true, decide_false, Bool.and_self, Bool.or_self, ↓reduceIte, ne_eq, not_false_eq_true, not_true_eq_false, reduceCtorEq, Nat.reduceLT, Nat.reduceEqDiff, Nat.reduceAdd, Nat.reduceMul, Nat.reduceLeDiff, Nat.reduceDiv, Nat.reduceMod, Nat.reduceSub, Nat.reduceBEq, rn_len, List.length_map, Ch.x, cut_rn, take_drop_len, List.length_append, List.length_take, List.length_drop, ← rn_app, Int.sub_zero]; done)))
    | ((with_reducible refine vCond_f ?_ ?_); (focus (simp only [lv, E1, E2, E5, ET, T, orc_mv, noO_mv, mvB, orc_bx, noO_bx, bxB, fwd, fwds, inv, mOk, Int.toNat_natCast, Nat.div_one, Nat.mul_one, Int.reduceToNat, List.not_mem_nil, true_or, or_true, true_and, and_true, decide_true, decide_false, Bool.and_self, Bool.or_self, ↓reduceIte, ne_eq, not_false_eq_true, not_true_eq_false, reduceCtorEq, Nat.reduceLT, Nat.reduceEqDiff, Nat.reduceAdd, Nat.reduceMul, Nat.reduceLeDiff, Nat.reduceDiv, Nat.reduceMod, Nat.reduceSub, Nat.reduceBEq, rn_len, List.length_map, Ch.x, cut_rn, take_drop_len, List.length_append, List.length_take, List.length_drop, ← rn_app, Int.sub_zero]; done)))
    | ((with_reducible refine And.intro ?_ ?_); (focus (try omega)))
    | ((with_reducible apply orc_i); (focus (with_reducible exact put_ok _ _ _ _ (by omega) (by omega) (by omega) (by omega) (by omega); done)); (generalize hk : Kt _ _ _ _ _ _ _ _ _ = k; simp only [lv, E1, E2, E5, ET, T, orc_mv, noO_mv, mvB, orc_bx, noO_bx, bxB, fwd, fwds, inv, mOk, Int.toNat_natCast, Nat.div_one, Nat.mul_one, Int.reduceToNat, List.not_mem_nil, true_or, or_true, true_and, and_true, decide_true, decide_false, Bool.and_self, Bool.or_self, ↓reduceIte, ne_eq, not_false_eq_true, not_true_eq_false, reduceCtorEq, Nat.reduceLT, Nat.reduceEqDiff, Nat.reduceAdd, Nat.reduceMul, Nat.reduceLeDiff, Nat.reduceDiv, Nat.reduceMod, Nat.reduceSub, Nat.reduceBEq, rn_len, List.length_map, Ch.x, cut_rn, take_drop_len, List.length_append, List.length_take, List.length_drop, ← rn_app, Int.sub_zero]; (try simp (disch := omega) only [wrap_in, Int.toNat_natCast, tv_rn]); subst hk))
  · rename_i ha he
    exact Kl_n ⟨k + 1, ⟨by omega, fun i hi => by rcases Nat.lt_or_eq_of_le (Nat.le_of_lt_succ hi) with h1 | h1; exact hlt i h1; exact h1 ▸ he⟩, by omega, by simp only [Int.natCast_add, Int.natCast_one]⟩
  · rename_i ha he
    have hg : ¬ c.good t := fun h => he (((stands_iff (by omega) e5).1 h.2.2.2.2.2) k (by omega))
    rw [if_neg hg, decide_eq_false (fun h => hg h.1)]
    refine Kf_r ?_
    simp only [Tryd.f47, E4, E3, E2, E5, rawX, deadX, ET, T, List.not_mem_nil, true_or, or_true, true_and, and_true, decide_true, decide_false, Bool.and_self, Bool.or_self, ↓reduceIte, ne_eq, not_false_eq_true, not_true_eq_false, reduceCtorEq, Nat.reduceLT, Nat.reduceEqDiff, Nat.reduceAdd, Nat.reduceMul, Nat.reduceLeDiff, Nat.reduceDiv, Nat.reduceMod, Nat.reduceSub, Nat.reduceBEq, rn_len, List.length_map, Ch.x, cut_rn, take_drop_len, List.length_append, List.length_take, List.length_drop, ← rn_app, Int.sub_zero, rn, List.map_nil]
  all_goals
    rename_i ha hl
    have hg : c.good t := ⟨hs1, hb, by omega, by omega, by omega, (stands_iff (by omega) e5).2 fun i hi => hlt i (by omega)⟩
    have hd := Ch.done_len hg.2.2
    rw [if_pos hg]
  · rw [decide_eq_true (⟨hg, by rw [hd]; omega⟩ : c.good t ∧ (c.done t).length ≤ 4096)]
    refine Kf_r ?_
    simp only [Tryd.f47, E4, E3, E2, E5, rawX, deadX, ET, T, List.not_mem_nil, true_or, or_true, true_and, and_true, decide_true, decide_false, Bool.and_self, Bool.or_self, ↓reduceIte, ne_eq, not_false_eq_true, not_true_eq_false, reduceCtorEq, Nat.reduceLT, Nat.reduceEqDiff, Nat.reduceAdd, Nat.reduceMul, Nat.reduceLeDiff, Nat.reduceDiv, Nat.reduceMod, Nat.reduceSub, Nat.reduceBEq, rn_len, List.length_map, Ch.x, cut_rn, take_drop_len, List.length_append, List.length_take, List.length_drop, ← rn_app, Int.sub_zero, Ch.done]
  · rw [decide_eq_false (fun h => by have := h.2; rw [hd] at this; omega : ¬ (c.good t ∧ (c.done t).length ≤ 4096))]
    refine Kf_r ?_
    simp only [Tryd.f47, E4, E3, E2, E5, rawX, deadX, ET, T, List.not_mem_nil, true_or, or_true, true_and, and_true, decide_true, decide_false, Bool.and_self, Bool.or_self, ↓reduceIte, ne_eq, not_false_eq_true, not_true_eq_false, reduceCtorEq, Nat.reduceLT, Nat.reduceEqDiff, Nat.reduceAdd, Nat.reduceMul, Nat.reduceLeDiff, Nat.reduceDiv, Nat.reduceMod, Nat.reduceSub, Nat.reduceBEq, rn_len, List.length_map, Ch.x, cut_rn, take_drop_len, List.length_append, List.length_take, List.length_drop, ← rn_app, Int.sub_zero, Ch.done]
end Go.Proofs.YtdpflafjfkooeaaDoorG
