/- YtdpflafjfkooeaaDoorZTLawCCostLater: a part of the proof, joined of its texts. -/
import Derived.Test.YtdpflafjfkooeaaDoorZ24
namespace Go.Proofs.YtdpflafjfkooeaaDoorG
open Go Go.RowKit Go.Proofs Go.Proofs.YtdpflafjfkooeaaDoorG.Dec
set_option linter.unusedSimpArgs false
set_option linter.unusedVariables false
theorem right_190 (s : St) : rightF s ≠ 190 := by unfold rightF; (repeat' split) <;> simp
theorem ins_190 (t : List Int) (o : Opn) : (insF t o).2 ≠ 190 := by unfold insF; (repeat' split) <;> simp
theorem rem_190 (t : List Int) (o : Opn) : (remF t o).2 ≠ 190 := by unfold remF; (repeat' split) <;> simp
theorem eff_190 (s : St) (o : Opn) : (effF s o).2 ≠ 190 := by
  unfold effF
  split
  · exact right_190 s
  · split
    · exact ins_190 _ _
    · split
      · exact rem_190 _ _
      · (repeat' split) <;> simp
theorem app_190 (s : St) (o : Opn) : (appF s o).2 ≠ 190 := by
  unfold appF
  split
  · exact eff_190 s o
  · (repeat' split) <;> simp
theorem op_190 (o : Opn) : (opF o).2 ≠ 190 := by unfold opF; (repeat' split) <;> simp
set_option maxRecDepth 10000 in
set_option maxHeartbeats 16000000 in
theorem later_law (a0 b0 c0 : Int) (l : List Opn) (o : Opn) (hl : l.length ≤ 2000000) (h : ∀ o ∈ l, R32s o.text) (h2 : ∀ o ∈ l, o.text.length ≤ 2000000) (ho : R32s o.text) (hoo : o.text.length ≤ 2000000) : CallOk Tryd.prog 6 [geo a0 b0 c0, sln 4 (ops l), o.x] (bo true) [] true := by
  have w := works24_ok
  have g := geom_ok a0 b0 c0
  have hsec := secF_geom a0 b0 c0
  have g1 := gN_in 60 a0 (by decide)
  have g2 := gN_in 60 b0 (by decide)
  have g3 := gN_in 8 c0 (by decide)
  generalize 1 + gN 60 a0 = a at *
  generalize 1 + gN 60 b0 = b at *
  generalize 1 + gN 8 c0 = c at *
  have hab := secF_in hsec
  refine fn_ok' T_ok (orc_ok _) mixed Tryd.func6 rfl (by kernel_rfl) (lv [[1, 3, 5], [1, 3, 5, 20], [6], [1, 3, 5], [1, 3, 5, 7, 1000007], [1, 3, 5, 7, 8], [1, 3, 5, 7, 8, 31], [1, 3, 5, 7, 8], [1, 3, 5, 7, 8, 40], [6], [1, 3, 5, 7, 8, 9, 10], [1, 3, 5, 7, 8, 9, 52], [1, 3, 5, 7, 8], [3, 5, 7, 57], [6], [3, 5, 7, 11, 12], [3, 5, 11, 12, 13, 14], [3, 5, 12, 13, 14, 15, 16], [3, 5, 14, 16, 102], [6], [3, 5, 14, 16, 108], [6], [3, 16, 17], [6]]) 125 rfl (by simp) rfl (by simp [X.all, PX.all, TV.rawR, SV.isRaw]) ?_
  simp only [argsG, Nat.zero_add, Nat.reduceAdd, Opn.x]
  repeat' first
    | ((first
        | ((with_reducible refine vR_cons (by decide) ?_); generalize hk : KtR _ _ _ _ _ _ _ _ _ _ = k)
        | ((first
        | with_reducible refine vOps_cons' ?_
        | ((with_reducible apply orc_i); (focus (exact w; done)))
        | ((with_reducible apply orc_i); (focus (exact g; done)))) <;> generalize hk : Kt _ _ _ _ _ _ _ _ _ = k)) <;> (simp only [Tryd.f6, lv, E1, E2, E5, ET, T, orc_mv, noO_mv, mvB, orc_bx, noO_bx, bxB, orc_sx, noO_sx, sxB, fwd, fwds, inv, mOk, Int.toNat_natCast, Nat.div_one, Nat.mul_one, Int.reduceToNat, SB, List.not_mem_nil, ↓reduceIte, ne_eq, reduceCtorEq, Nat.reduceLT, Nat.reduceEqDiff, Nat.reduceAdd, Nat.reduceMul, Nat.reduceLeDiff, Nat.reduceDiv, Nat.reduceMod, Nat.reduceSub, Nat.reduceBEq, List.length_map, bs_len, rn_len, ops_len, ops_cnt, Opn.x, St.x, St.rx, Book.x, bkE, b_tf, b_ft]; (try simp (disch := omega) only [wrap_in, Int.toNat_natCast, tv_rn, tv_op0, tv_op1, tv_op2, tv_op3]); subst hk))
    | with_reducible first | refine Kt_p ?_ | refine Kt_i (by kernel_rfl) ?_ | refine Kr_f (by kernel_rfl) ?_
    | (with_reducible refine Kr_t ?_; simp only [List.length_append, List.length_cons, List.length_nil, Nat.reduceAdd, Nat.reduceSub, List.drop_succ_cons, List.drop_zero])
    | with_reducible first | refine vR_nil ?_ | refine KtR_i (by kernel_rfl) ?_ | refine KrR_i (by kernel_rfl) ?_ | refine vR_skip (by decide) ?_
    | ((with_reducible refine vB_i ?_ ?_) <;> intro _ <;> (first | (exfalso; omega) | (exact absurd trivial ‹¬True›) | (try dsimp only [])))
    | ((with_reducible refine vOps_nil' ?_); refine Kr_i (by kernel_rfl) ?_; generalize hk : plain _ _ = G; simp only [lv, E3, E2, E5, rawX, deadX, SB, List.not_mem_nil, ↓reduceIte, ne_eq, reduceCtorEq, Nat.reduceLT, Nat.reduceEqDiff, Nat.reduceAdd, Nat.reduceMul, Nat.reduceLeDiff, Nat.reduceDiv, Nat.reduceMod, Nat.reduceSub, Nat.reduceBEq, List.length_map, bs_len, rn_len, ops_len, ops_cnt, Opn.x, St.x, St.rx, Book.x, bkE, b_tf, b_ft] at hk; subst hk)
    | with_reducible refine vSeq_i ?_
    | with_reducible first | refine vRegion_i (by kernel_rfl) ?_ | refine Kv_i ?_
    | ((with_reducible apply vStrK_i); (focus (rfl; done)))
    | ((with_reducible refine imp_i ?_); intro _)
    | with_reducible first | refine Ks_n ?_ | refine Ks_r ?_ | refine Ks_e ?_ | refine Kl_e ?_ | refine Kx_n ?_ | refine Kl_r ?_ | refine vRet_i ?_ | refine vSkip_i ?_ | refine vExit_i ?_ | refine vBlock_i ?_ | refine Ks_p ?_ | refine Kl_p ?_ | refine blk_p ?_ | exact Kb_p | refine vGoto_i ?_ | refine vLabel_i ?_ | refine Ks_g ?_ | refine Kl_g ?_ | refine blk_g ?_ | refine jmp_g ?_ | refine jmp_n ?_ | refine jmp_r ?_ | refine nog_n ?_ | refine nog_r ?_ | refine blk_n ?_ | refine blk_r ?_ | refine blk_e ?_ | refine blk_o (by decide) ?_ | refine cp_t ?_ | refine cp_f ?_
    | ((with_reducible apply vCond_x); (focus (simp only [lv, E1, E2, E5, ET, T, orc_mv, noO_mv, mvB, orc_bx, noO_bx, bxB, orc_sx, noO_sx, sxB, fwd, fwds, inv, mOk, Int.toNat_natCast, Nat.div_one, Nat.mul_one, Int.reduceToNat, SB, List.not_mem_nil, ↓reduceIte, ne_eq, reduceCtorEq, Nat.reduceLT, Nat.reduceEqDiff, Nat.reduceAdd, Nat.reduceMul, Nat.reduceLeDiff, Nat.reduceDiv, Nat.reduceMod, Nat.reduceSub, Nat.reduceBEq, List.length_map, bs_len, rn_len, ops_len, ops_cnt, Opn.x, St.x, St.rx, Book.x, bkE, b_tf, b_ft]; with_reducible first | exact Eq.refl (bo true) | exact Eq.refl (bo false))))
    | ((with_reducible refine And.intro ?_ ?_); (focus (try omega)))
  all_goals try (exfalso; omega)
  refine vLoop_s (fun z : Nat × Book => [(.t 1, .t (sln 4 (ops l))), (.t 3, .t (.p (.one (.pr 0 0)))), (.t 5, .t (.p (.one (.pr 1 0)))), (.t 7, .t (.p (.one (.pr 2 0)))), (.t 8, .t (i64 z.1)),
      (.box 0, .box 23 [.v (.raw (.int .i64 a)), .v (.raw (.int .i64 b)), .v (.raw (.int .i64 c))]), (.box 1, .box 26 [.v (.raw (.int .i64 o.kind)), .v (.raw (.int .i64 o.at_)), .v (.raw (.int .i64 o.to_)), .v (.sl 1 (rn o.text))]), (.box 2, .box 56 [.v (.sl 1 (rn z.2.s.text)), .v (.sl 3 (chs z.2.s.undo)), .v (.sl 3 (chs z.2.s.redo)), .v (.raw (.int .i64 z.2.n)), .v (.raw (.int .i64 z.2.u))])])
    (SumI a b l) (fun z => l.length - z.1) (0, bk0) ⟨Nat.zero_le _, Nat.zero_le _, okN, by decide, ⟨by decide, by show (0 : Int) ≤ 64 * a; omega⟩, ⟨by decide, by decide⟩, by show stC noSt ≤ _; rw [stN.1]; omega⟩ rfl ?_
  rintro ⟨i, k⟩ hI
  obtain ⟨hle, hm, hok, hr, hu, hn, hst⟩ := hI
  simp only [] at hle hm hok hr hu hn hst
  by_cases hin : i < l.length ∧ i < 40
  · obtain ⟨hi1, hi2⟩ := hin
    have hoR := h _ (mem6 hi1)
    have hoL := h2 _ (mem6 hi1)
    by_cases htx : (l.getD i noOp).text.length > 300
    · skip
      repeat' first
        | ((first
            | ((with_reducible refine vR_cons (by decide) ?_); generalize hk : KtR _ _ _ _ _ _ _ _ _ _ = k)
            | ((first
            | with_reducible refine vOps_cons' ?_) <;> generalize hk : Kt _ _ _ _ _ _ _ _ _ = k)) <;> (simp only [Tryd.f6, lv, E1, E2, E5, ET, T, orc_mv, noO_mv, mvB, orc_bx, noO_bx, bxB, orc_sx, noO_sx, sxB, fwd, fwds, inv, mOk, Int.toNat_natCast, Nat.div_one, Nat.mul_one, Int.reduceToNat, SB, List.not_mem_nil, ↓reduceIte, ne_eq, reduceCtorEq, Nat.reduceLT, Nat.reduceEqDiff, Nat.reduceAdd, Nat.reduceMul, Nat.reduceLeDiff, Nat.reduceDiv, Nat.reduceMod, Nat.reduceSub, Nat.reduceBEq, List.length_map, bs_len, rn_len, ops_len, ops_cnt, Opn.x, St.x, St.rx, Book.x, bkE, b_tf, b_ft]; (try simp (disch := omega) only [wrap_in, Int.toNat_natCast, tv_rn, tv_op0, tv_op1, tv_op2, tv_op3]); subst hk))
        | with_reducible first | refine Kt_p ?_ | refine Kt_i (by kernel_rfl) ?_ | refine Kr_f (by kernel_rfl) ?_
        | (with_reducible refine Kr_t ?_; simp only [List.length_append, List.length_cons, List.length_nil, Nat.reduceAdd, Nat.reduceSub, List.drop_succ_cons, List.drop_zero])
        | with_reducible first | refine vR_nil ?_ | refine KtR_i (by kernel_rfl) ?_ | refine KrR_i (by kernel_rfl) ?_ | refine vR_skip (by decide) ?_
        | ((with_reducible refine vB_i ?_ ?_) <;> intro _ <;> (first | (exfalso; omega) | (exact absurd trivial ‹¬True›) | (try dsimp only [])))
        | ((with_reducible refine vOps_nil' ?_); refine Kr_i (by kernel_rfl) ?_; generalize hk : plain _ _ = G; simp only [lv, E3, E2, E5, rawX, deadX, SB, List.not_mem_nil, ↓reduceIte, ne_eq, reduceCtorEq, Nat.reduceLT, Nat.reduceEqDiff, Nat.reduceAdd, Nat.reduceMul, Nat.reduceLeDiff, Nat.reduceDiv, Nat.reduceMod, Nat.reduceSub, Nat.reduceBEq, List.length_map, bs_len, rn_len, ops_len, ops_cnt, Opn.x, St.x, St.rx, Book.x, bkE, b_tf, b_ft] at hk; subst hk)
        | with_reducible refine vSeq_i ?_
        | with_reducible first | refine vRegion_i (by kernel_rfl) ?_ | refine Kv_i ?_
        | ((with_reducible apply vStrK_i); (focus (rfl; done)))
        | ((with_reducible refine imp_i ?_); intro _)
        | with_reducible first | refine Ks_n ?_ | refine Ks_r ?_ | refine Ks_e ?_ | refine Kl_e ?_ | refine Kx_n ?_ | refine Kl_r ?_ | refine vRet_i ?_ | refine vSkip_i ?_ | refine vExit_i ?_ | refine vBlock_i ?_ | refine Ks_p ?_ | refine Kl_p ?_ | refine blk_p ?_ | exact Kb_p | refine vGoto_i ?_ | refine vLabel_i ?_ | refine Ks_g ?_ | refine Kl_g ?_ | refine blk_g ?_ | refine jmp_g ?_ | refine jmp_n ?_ | refine jmp_r ?_ | refine nog_n ?_ | refine nog_r ?_ | refine blk_n ?_ | refine blk_r ?_ | refine blk_e ?_ | refine blk_o (by decide) ?_ | refine cp_t ?_ | refine cp_f ?_
        | ((with_reducible apply vCond_x); (focus (simp only [lv, E1, E2, E5, ET, T, orc_mv, noO_mv, mvB, orc_bx, noO_bx, bxB, orc_sx, noO_sx, sxB, fwd, fwds, inv, mOk, Int.toNat_natCast, Nat.div_one, Nat.mul_one, Int.reduceToNat, SB, List.not_mem_nil, ↓reduceIte, ne_eq, reduceCtorEq, Nat.reduceLT, Nat.reduceEqDiff, Nat.reduceAdd, Nat.reduceMul, Nat.reduceLeDiff, Nat.reduceDiv, Nat.reduceMod, Nat.reduceSub, Nat.reduceBEq, List.length_map, bs_len, rn_len, ops_len, ops_cnt, Opn.x, St.x, St.rx, Book.x, bkE, b_tf, b_ft]; with_reducible first | exact Eq.refl (bo true) | exact Eq.refl (bo false))))
        | ((with_reducible refine And.intro ?_ ?_); (focus (try omega)))
      all_goals try (exfalso; omega)
      all_goals refine Kf_r ?_
      all_goals simp only [Tryd.f6, E4, E3, E2, E5, rawX, deadX, ET, T, SB, List.not_mem_nil, ↓reduceIte, ne_eq, reduceCtorEq, Nat.reduceLT, Nat.reduceEqDiff, Nat.reduceAdd, Nat.reduceMul, Nat.reduceLeDiff, Nat.reduceDiv, Nat.reduceMod, Nat.reduceSub, Nat.reduceBEq, List.length_map, bs_len, rn_len, ops_len, ops_cnt, Opn.x, St.x, St.rx, Book.x, bkE, b_tf, b_ft]
    have hop : (l.getD i noOp).ok := ⟨by omega, hoR⟩
    rcases hA : appF k.s (l.getD i noOp) with ⟨s', e2⟩
    have hs'ok : e2 = 0 → s'.ok := fun q => by have := app_ok hok hop (by rw [hA]; exact q); rwa [hA] at this
    have hs'r : e2 = 0 → rightF s' = 0 := fun q => by have := right_app hok hop (by rw [hA]; exact q); rwa [hA] at this
    rcases hN : nextF a b c k (l.getD i noOp) with ⟨nk, ne⟩
    have p7 := nextB_ok a b c k (l.getD i noOp) hok hop (by omega)
    rw [hN] at p7
    have hF := next_facts hsec (by omega) (by omega) hN hA
    have hoc := opC_in (l.getD i noOp)
    have hnk : ne = 0 → nk = ⟨s', k.n + 1, k.u + opC (l.getD i noOp)⟩ ∧ s'.ok ∧ rightF s' = 0 ∧ stC s' ≤ 54 * b ∧ k.u + opC (l.getD i noOp) ≤ 64 * a := fun q => by
      rcases hF with hf | hf | hf | hf | hf
      · omega
      · omega
      · omega
      · omega
      · exact ⟨hf.2.2.2.2.2, hs'ok hf.1, hs'r hf.1, hf.2.2.1, hf.2.2.2.1⟩
    simp only [Book.x, bkE] at p7
    repeat' first
      | ((first
          | ((with_reducible refine vR_cons (by decide) ?_); generalize hk : KtR _ _ _ _ _ _ _ _ _ _ = k)
          | ((first
          | with_reducible refine vOps_cons' ?_
          | ((with_reducible apply orc_i); (focus (exact p7; done)))) <;> generalize hk : Kt _ _ _ _ _ _ _ _ _ = k)) <;> (simp only [Tryd.f6, lv, E1, E2, E5, ET, T, orc_mv, noO_mv, mvB, orc_bx, noO_bx, bxB, orc_sx, noO_sx, sxB, fwd, fwds, inv, mOk, Int.toNat_natCast, Nat.div_one, Nat.mul_one, Int.reduceToNat, SB, List.not_mem_nil, ↓reduceIte, ne_eq, reduceCtorEq, Nat.reduceLT, Nat.reduceEqDiff, Nat.reduceAdd, Nat.reduceMul, Nat.reduceLeDiff, Nat.reduceDiv, Nat.reduceMod, Nat.reduceSub, Nat.reduceBEq, List.length_map, bs_len, rn_len, ops_len, ops_cnt, Opn.x, St.x, St.rx, Book.x, bkE, b_tf, b_ft]; (try simp (disch := omega) only [wrap_in, Int.toNat_natCast, tv_rn, tv_op0, tv_op1, tv_op2, tv_op3]); subst hk))
      | with_reducible first | refine Kt_p ?_ | refine Kt_i (by kernel_rfl) ?_ | refine Kr_f (by kernel_rfl) ?_
      | (with_reducible refine Kr_t ?_; simp only [List.length_append, List.length_cons, List.length_nil, Nat.reduceAdd, Nat.reduceSub, List.drop_succ_cons, List.drop_zero])
      | with_reducible first | refine vR_nil ?_ | refine KtR_i (by kernel_rfl) ?_ | refine KrR_i (by kernel_rfl) ?_ | refine vR_skip (by decide) ?_
      | ((with_reducible refine vB_i ?_ ?_) <;> intro _ <;> (first | (exfalso; omega) | (exact absurd trivial ‹¬True›) | (try dsimp only [])))
      | ((with_reducible refine vOps_nil' ?_); refine Kr_i (by kernel_rfl) ?_; generalize hk : plain _ _ = G; simp only [lv, E3, E2, E5, rawX, deadX, SB, List.not_mem_nil, ↓reduceIte, ne_eq, reduceCtorEq, Nat.reduceLT, Nat.reduceEqDiff, Nat.reduceAdd, Nat.reduceMul, Nat.reduceLeDiff, Nat.reduceDiv, Nat.reduceMod, Nat.reduceSub, Nat.reduceBEq, List.length_map, bs_len, rn_len, ops_len, ops_cnt, Opn.x, St.x, St.rx, Book.x, bkE, b_tf, b_ft] at hk; subst hk)
      | with_reducible refine vSeq_i ?_
      | with_reducible first | refine vRegion_i (by kernel_rfl) ?_ | refine Kv_i ?_
      | ((with_reducible apply vStrK_i); (focus (rfl; done)))
      | ((with_reducible refine imp_i ?_); intro _)
      | with_reducible first | refine Ks_n ?_ | refine Ks_r ?_ | refine Ks_e ?_ | refine Kl_e ?_ | refine Kx_n ?_ | refine Kl_r ?_ | refine vRet_i ?_ | refine vSkip_i ?_ | refine vExit_i ?_ | refine vBlock_i ?_ | refine Ks_p ?_ | refine Kl_p ?_ | refine blk_p ?_ | exact Kb_p | refine vGoto_i ?_ | refine vLabel_i ?_ | refine Ks_g ?_ | refine Kl_g ?_ | refine blk_g ?_ | refine jmp_g ?_ | refine jmp_n ?_ | refine jmp_r ?_ | refine nog_n ?_ | refine nog_r ?_ | refine blk_n ?_ | refine blk_r ?_ | refine blk_e ?_ | refine blk_o (by decide) ?_ | refine cp_t ?_ | refine cp_f ?_
      | ((with_reducible apply vCond_x); (focus (simp only [lv, E1, E2, E5, ET, T, orc_mv, noO_mv, mvB, orc_bx, noO_bx, bxB, orc_sx, noO_sx, sxB, fwd, fwds, inv, mOk, Int.toNat_natCast, Nat.div_one, Nat.mul_one, Int.reduceToNat, SB, List.not_mem_nil, ↓reduceIte, ne_eq, reduceCtorEq, Nat.reduceLT, Nat.reduceEqDiff, Nat.reduceAdd, Nat.reduceMul, Nat.reduceLeDiff, Nat.reduceDiv, Nat.reduceMod, Nat.reduceSub, Nat.reduceBEq, List.length_map, bs_len, rn_len, ops_len, ops_cnt, Opn.x, St.x, St.rx, Book.x, bkE, b_tf, b_ft]; with_reducible first | exact Eq.refl (bo true) | exact Eq.refl (bo false))))
      | ((with_reducible refine And.intro ?_ ?_); (focus (try omega)))
    all_goals try (exfalso; omega)
    all_goals first
      | (have q : ne = 0 := by assumption
         obtain ⟨hk1, z1, z2, z3, z4⟩ := hnk q
         subst hk1
         refine Kl_n ⟨(i + 1, ⟨s', k.n + 1, k.u + opC (l.getD i noOp)⟩), ⟨by show i + 1 ≤ l.length; omega, by show i + 1 ≤ 60; omega, z1, z2, by show 0 ≤ k.u + opC (l.getD i noOp) ∧ k.u + opC (l.getD i noOp) ≤ 64 * a; omega, by show 0 ≤ k.n + 1 ∧ k.n + 1 ≤ ((i + 1 : Nat) : Int); omega, z3⟩, by show l.length - (i + 1) < l.length - i; omega, ?_⟩
         simp only [Int.natCast_add, Int.natCast_one]
         done)
      | (refine Kl_n ⟨(i + 1, k), ⟨by show i + 1 ≤ l.length; omega, by show i + 1 ≤ 60; omega, hok, hr, by show 0 ≤ k.u ∧ k.u ≤ 64 * a; omega, by show 0 ≤ k.n ∧ k.n ≤ ((i + 1 : Nat) : Int); omega, hst⟩, by show l.length - (i + 1) < l.length - i; omega, ?_⟩
         simp only [Int.natCast_add, Int.natCast_one]
         done)
      | trace_state
  · by_cases htx : o.text.length > 300
    · skip
      repeat' first
        | ((first
            | ((with_reducible refine vR_cons (by decide) ?_); generalize hk : KtR _ _ _ _ _ _ _ _ _ _ = k)
            | ((first
            | with_reducible refine vOps_cons' ?_) <;> generalize hk : Kt _ _ _ _ _ _ _ _ _ = k)) <;> (simp only [Tryd.f6, lv, E1, E2, E5, ET, T, orc_mv, noO_mv, mvB, orc_bx, noO_bx, bxB, orc_sx, noO_sx, sxB, fwd, fwds, inv, mOk, Int.toNat_natCast, Nat.div_one, Nat.mul_one, Int.reduceToNat, SB, List.not_mem_nil, ↓reduceIte, ne_eq, reduceCtorEq, Nat.reduceLT, Nat.reduceEqDiff, Nat.reduceAdd, Nat.reduceMul, Nat.reduceLeDiff, Nat.reduceDiv, Nat.reduceMod, Nat.reduceSub, Nat.reduceBEq, List.length_map, bs_len, rn_len, ops_len, ops_cnt, Opn.x, St.x, St.rx, Book.x, bkE, b_tf, b_ft]; (try simp (disch := omega) only [wrap_in, Int.toNat_natCast, tv_rn, tv_op0, tv_op1, tv_op2, tv_op3]); subst hk))
        | with_reducible first | refine Kt_p ?_ | refine Kt_i (by kernel_rfl) ?_ | refine Kr_f (by kernel_rfl) ?_
        | (with_reducible refine Kr_t ?_; simp only [List.length_append, List.length_cons, List.length_nil, Nat.reduceAdd, Nat.reduceSub, List.drop_succ_cons, List.drop_zero])
        | with_reducible first | refine vR_nil ?_ | refine KtR_i (by kernel_rfl) ?_ | refine KrR_i (by kernel_rfl) ?_ | refine vR_skip (by decide) ?_
        | ((with_reducible refine vB_i ?_ ?_) <;> intro _ <;> (first | (exfalso; omega) | (exact absurd trivial ‹¬True›) | (try dsimp only [])))
        | ((with_reducible refine vOps_nil' ?_); refine Kr_i (by kernel_rfl) ?_; generalize hk : plain _ _ = G; simp only [lv, E3, E2, E5, rawX, deadX, SB, List.not_mem_nil, ↓reduceIte, ne_eq, reduceCtorEq, Nat.reduceLT, Nat.reduceEqDiff, Nat.reduceAdd, Nat.reduceMul, Nat.reduceLeDiff, Nat.reduceDiv, Nat.reduceMod, Nat.reduceSub, Nat.reduceBEq, List.length_map, bs_len, rn_len, ops_len, ops_cnt, Opn.x, St.x, St.rx, Book.x, bkE, b_tf, b_ft] at hk; subst hk)
        | with_reducible refine vSeq_i ?_
        | with_reducible first | refine vRegion_i (by kernel_rfl) ?_ | refine Kv_i ?_
        | ((with_reducible apply vStrK_i); (focus (rfl; done)))
        | ((with_reducible refine imp_i ?_); intro _)
        | with_reducible first | refine Ks_n ?_ | refine Ks_r ?_ | refine Ks_e ?_ | refine Kl_e ?_ | refine Kx_n ?_ | refine Kl_r ?_ | refine vRet_i ?_ | refine vSkip_i ?_ | refine vExit_i ?_ | refine vBlock_i ?_ | refine Ks_p ?_ | refine Kl_p ?_ | refine blk_p ?_ | exact Kb_p | refine vGoto_i ?_ | refine vLabel_i ?_ | refine Ks_g ?_ | refine Kl_g ?_ | refine blk_g ?_ | refine jmp_g ?_ | refine jmp_n ?_ | refine jmp_r ?_ | refine nog_n ?_ | refine nog_r ?_ | refine blk_n ?_ | refine blk_r ?_ | refine blk_e ?_ | refine blk_o (by decide) ?_ | refine cp_t ?_ | refine cp_f ?_
        | ((with_reducible apply vCond_x); (focus (simp only [lv, E1, E2, E5, ET, T, orc_mv, noO_mv, mvB, orc_bx, noO_bx, bxB, orc_sx, noO_sx, sxB, fwd, fwds, inv, mOk, Int.toNat_natCast, Nat.div_one, Nat.mul_one, Int.reduceToNat, SB, List.not_mem_nil, ↓reduceIte, ne_eq, reduceCtorEq, Nat.reduceLT, Nat.reduceEqDiff, Nat.reduceAdd, Nat.reduceMul, Nat.reduceLeDiff, Nat.reduceDiv, Nat.reduceMod, Nat.reduceSub, Nat.reduceBEq, List.length_map, bs_len, rn_len, ops_len, ops_cnt, Opn.x, St.x, St.rx, Book.x, bkE, b_tf, b_ft]; with_reducible first | exact Eq.refl (bo true) | exact Eq.refl (bo false))))
        | ((with_reducible refine And.intro ?_ ?_); (focus (try omega)))
      all_goals try (exfalso; omega)
      all_goals refine Kf_r ?_
      all_goals simp only [Tryd.f6, E4, E3, E2, E5, rawX, deadX, ET, T, SB, List.not_mem_nil, ↓reduceIte, ne_eq, reduceCtorEq, Nat.reduceLT, Nat.reduceEqDiff, Nat.reduceAdd, Nat.reduceMul, Nat.reduceLeDiff, Nat.reduceDiv, Nat.reduceMod, Nat.reduceSub, Nat.reduceBEq, List.length_map, bs_len, rn_len, ops_len, ops_cnt, Opn.x, St.x, St.rx, Book.x, bkE, b_tf, b_ft]
    have hop : o.ok := ⟨by omega, ho⟩
    have p1 := costOp_ok o ho hoo
    have p3 := saved_ok a b c k hok
    rw [saved_is hsec hr hst] at p3
    rcases hA : appF k.s o with ⟨s', e2⟩
    have ha190 := app_190 k.s o
    have ho190 := op_190 o
    rw [hA] at ha190
    have hs'ok : e2 = 0 → s'.ok := fun q => by have := app_ok hok hop (by rw [hA]; exact q); rwa [hA] at this
    rcases hN : nextF a b c k o with ⟨nk, ne⟩
    have p7 := nextB_ok a b c k o hok hop (by omega)
    rw [hN] at p7
    have hF := next_facts hsec (by omega) (by omega) hN hA
    rcases hN2 : nextF a b c ⟨k.s, k.n, 0⟩ o with ⟨nk2, ne2⟩
    have p8 := nextB_ok a b c ⟨k.s, k.n, 0⟩ o hok hop (by show (0 : Int) ≤ _; omega)
    rw [hN2] at p8
    have hF2 := next_facts hsec (by show (0 : Int) ≤ 0; omega) (by show 0 ≤ k.n ∧ k.n < 1000; omega) hN2 hA
    simp only [] at hF2 ha190
    have hoc := opC_in o
    have hnk : ne = 0 → nk = ⟨s', k.n + 1, k.u + opC o⟩ ∧ e2 = 0 := fun q => by
      rcases hF with hf | hf | hf | hf | hf
      · omega
      · omega
      · omega
      · omega
      · exact ⟨hf.2.2.2.2.2, hf.1⟩
    have hnk2 : ne2 = 0 → nk2 = ⟨s', k.n + 1, 0 + opC o⟩ := fun q => by
      rcases hF2 with hf | hf | hf | hf | hf
      · omega
      · omega
      · omega
      · omega
      · exact hf.2.2.2.2.2
    have hnu : ne = 0 → nk.n = k.n + 1 := fun q => by rw [(hnk q).1]
    have hnu2 : ne2 = 0 → nk2.n = k.n + 1 := fun q => by rw [hnk2 q]
    have p9 : ne = 0 → ne2 = 0 → CallOk Tryd.prog 21 [nk.s.x, nk2.s.x] (bo true) [] true := fun q q' => by
      rw [(hnk q).1, hnk2 q']
      have := sameSt_ok s' s' (stSm (hs'ok (hnk q).2)) (stSm (hs'ok (hnk q).2))
      rwa [decide_eq_true rfl] at this
    have hiff : ne = 0 → ne2 = 0 := fun q => by
      rcases hF with hf | hf | hf | hf | hf <;> rcases hF2 with hg | hg | hg | hg | hg <;> omega
    simp only [Book.x, bkE] at p3 p7 p8
    repeat' first
      | ((first
          | ((with_reducible refine vR_cons (by decide) ?_); generalize hk : KtR _ _ _ _ _ _ _ _ _ _ = k)
          | ((first
          | with_reducible refine vOps_cons' ?_
          | ((with_reducible apply orc_i); (focus (exact p1; done)))
          | ((with_reducible apply orc_i); (focus (exact p3; done)))
          | ((with_reducible apply orc_i); (focus (exact p7; done)))
          | ((with_reducible apply orc_i); (focus (exact p8; done)))
          | ((with_reducible apply orc_i); (focus (exact p9 (by assumption) (by assumption); done)))) <;> generalize hk : Kt _ _ _ _ _ _ _ _ _ = k)) <;> (simp only [Tryd.f6, lv, E1, E2, E5, ET, T, orc_mv, noO_mv, mvB, orc_bx, noO_bx, bxB, orc_sx, noO_sx, sxB, fwd, fwds, inv, mOk, Int.toNat_natCast, Nat.div_one, Nat.mul_one, Int.reduceToNat, SB, List.not_mem_nil, ↓reduceIte, ne_eq, reduceCtorEq, Nat.reduceLT, Nat.reduceEqDiff, Nat.reduceAdd, Nat.reduceMul, Nat.reduceLeDiff, Nat.reduceDiv, Nat.reduceMod, Nat.reduceSub, Nat.reduceBEq, List.length_map, bs_len, rn_len, ops_len, ops_cnt, Opn.x, St.x, St.rx, Book.x, bkE, b_tf, b_ft]; (try simp (disch := omega) only [wrap_in, Int.toNat_natCast, tv_rn, tv_op0, tv_op1, tv_op2, tv_op3]); subst hk))
      | with_reducible first | refine Kt_p ?_ | refine Kt_i (by kernel_rfl) ?_ | refine Kr_f (by kernel_rfl) ?_
      | (with_reducible refine Kr_t ?_; simp only [List.length_append, List.length_cons, List.length_nil, Nat.reduceAdd, Nat.reduceSub, List.drop_succ_cons, List.drop_zero])
      | with_reducible first | refine vR_nil ?_ | refine KtR_i (by kernel_rfl) ?_ | refine KrR_i (by kernel_rfl) ?_ | refine vR_skip (by decide) ?_
      | ((with_reducible refine vB_i ?_ ?_) <;> intro _ <;> (first | (exfalso; omega) | (exact absurd trivial ‹¬True›) | (try dsimp only [])))
      | ((with_reducible refine vOps_nil' ?_); refine Kr_i (by kernel_rfl) ?_; generalize hk : plain _ _ = G; simp only [lv, E3, E2, E5, rawX, deadX, SB, List.not_mem_nil, ↓reduceIte, ne_eq, reduceCtorEq, Nat.reduceLT, Nat.reduceEqDiff, Nat.reduceAdd, Nat.reduceMul, Nat.reduceLeDiff, Nat.reduceDiv, Nat.reduceMod, Nat.reduceSub, Nat.reduceBEq, List.length_map, bs_len, rn_len, ops_len, ops_cnt, Opn.x, St.x, St.rx, Book.x, bkE, b_tf, b_ft] at hk; subst hk)
      | with_reducible refine vSeq_i ?_
      | with_reducible first | refine vRegion_i (by kernel_rfl) ?_ | refine Kv_i ?_
      | ((with_reducible apply vStrK_i); (focus (rfl; done)))
      | ((with_reducible refine imp_i ?_); intro _)
      | with_reducible first | refine Ks_n ?_ | refine Ks_r ?_ | refine Ks_e ?_ | refine Kl_e ?_ | refine Kx_n ?_ | refine Kl_r ?_ | refine vRet_i ?_ | refine vSkip_i ?_ | refine vExit_i ?_ | refine vBlock_i ?_ | refine Ks_p ?_ | refine Kl_p ?_ | refine blk_p ?_ | exact Kb_p | refine vGoto_i ?_ | refine vLabel_i ?_ | refine Ks_g ?_ | refine Kl_g ?_ | refine blk_g ?_ | refine jmp_g ?_ | refine jmp_n ?_ | refine jmp_r ?_ | refine nog_n ?_ | refine nog_r ?_ | refine blk_n ?_ | refine blk_r ?_ | refine blk_e ?_ | refine blk_o (by decide) ?_ | refine cp_t ?_ | refine cp_f ?_
      | ((with_reducible apply vCond_x); (focus (simp only [lv, E1, E2, E5, ET, T, orc_mv, noO_mv, mvB, orc_bx, noO_bx, bxB, orc_sx, noO_sx, sxB, fwd, fwds, inv, mOk, Int.toNat_natCast, Nat.div_one, Nat.mul_one, Int.reduceToNat, SB, List.not_mem_nil, ↓reduceIte, ne_eq, reduceCtorEq, Nat.reduceLT, Nat.reduceEqDiff, Nat.reduceAdd, Nat.reduceMul, Nat.reduceLeDiff, Nat.reduceDiv, Nat.reduceMod, Nat.reduceSub, Nat.reduceBEq, List.length_map, bs_len, rn_len, ops_len, ops_cnt, Opn.x, St.x, St.rx, Book.x, bkE, b_tf, b_ft]; with_reducible first | exact Eq.refl (bo true) | exact Eq.refl (bo false))))
      | ((with_reducible refine And.intro ?_ ?_); (focus (try omega)))
    all_goals try (exfalso; omega)
    all_goals refine Kf_r ?_
    all_goals simp only [Tryd.f6, E4, E3, E2, E5, rawX, deadX, ET, T, SB, List.not_mem_nil, ↓reduceIte, ne_eq, reduceCtorEq, Nat.reduceLT, Nat.reduceEqDiff, Nat.reduceAdd, Nat.reduceMul, Nat.reduceLeDiff, Nat.reduceDiv, Nat.reduceMod, Nat.reduceSub, Nat.reduceBEq, List.length_map, bs_len, rn_len, ops_len, ops_cnt, Opn.x, St.x, St.rx, Book.x, bkE, b_tf, b_ft]
    all_goals trace_state
end Go.Proofs.YtdpflafjfkooeaaDoorG
/- L24c: CostSums and CostLater at what came in. -/
namespace Go.Proofs.YtdpflafjfkooeaaDoorG
open Go Go.RowKit Go.Proofs Go.Proofs.YtdpflafjfkooeaaDoor
theorem typ_geo {n : Nat} {xs : List SV} (h : Typ T n 23 xs) : ∃ a b c : Int, xs = [.raw (.int .i64 a), .raw (.int .i64 b), .raw (.int .i64 c)] := by
  obtain ⟨xss, rfl, ha⟩ := h.struct' (by rfl)
  obtain ⟨x0, r0, rfl, h0, ha⟩ := all2_c1 ha
  obtain ⟨x1, r1, rfl, h1, ha⟩ := all2_c1 ha
  obtain ⟨x2, r2, rfl, h2, ha⟩ := all2_c1 ha
  have := all2_n ha
  subst this
  obtain ⟨m0, rfl, _⟩ := h0.int' (by rfl)
  obtain ⟨m1, rfl, _⟩ := h1.int' (by rfl)
  obtain ⟨m2, rfl, _⟩ := h2.int' (by rfl)
  exact ⟨m0, m1, m2, rfl⟩
theorem typ_opsD {n : Nat} {x : SV} (h : Typ T n 44 [x]) : ∃ l : List Opn, x = .sl 4 (ops l) ∧ l.length ≤ n ∧ ∀ o ∈ l, o.upto n := by
  obtain ⟨xss, e, hl, hx⟩ := h.sl' (by rfl) (by rfl)
  obtain ⟨l, rfl, hp⟩ := choose_l (p := fun c => Opn.upto n c) (f := Opn.cells) fun ys hys => typ_op (hx ys hys)
  rw [flat_map] at e
  simp only [List.cons.injEq, and_true] at e
  exact ⟨l, e, by simpa using hl, hp⟩
theorem costLater_in {W : World} {v0 v1 v2 : Value} {xs0 : List SV} {x1 : SV} {xs2 : List SV} (t0 : Typ T 1048576 23 xs0) (a0 : XR W (gI W) v0 (.p (.agg (xs0.map .v)))) (t1 : Typ T 1048576 44 [x1]) (a1 : XR W (gI W) v1 (.p (.one (.v x1))))
    (t2 : Typ T 1048576 26 xs2) (a2 : XR W (gI W) v2 (.p (.agg (xs2.map .v)))) (hg : W.cell? ⟨0, 0, none⟩ = some GV) :
    Calls Tryd.prog 6 #[v0, v1, v2] W fun e W' => e = .returned (.bool true) ∧ Below W.heap.size W W' := by
  obtain ⟨a, b, c, rfl⟩ := typ_geo t0
  obtain ⟨l, rfl, hl, h1⟩ := typ_opsD t1
  obtain ⟨o, rfl, h2⟩ := typ_op t2
  exact law_calls (later_law a b c l o (by omega) (fun o h => (h1 o h).run) (fun o h => Nat.le_trans (h1 o h).len (by omega)) h2.run (Nat.le_trans h2.len (by omega))) (.cons a0 (.cons a1 (.cons a2 .nil))) (gr_gI hg)
end Go.Proofs.YtdpflafjfkooeaaDoorG
