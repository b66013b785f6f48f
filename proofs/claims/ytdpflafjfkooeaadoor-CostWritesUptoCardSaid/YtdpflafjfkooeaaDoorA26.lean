import Derived.Test.YtdpflafjfkooeaaDoorA9
import Derived.Test.YtdpflafjfkooeaaDoorG16
namespace Go.Proofs.YtdpflafjfkooeaaDoorG
open Go Go.RowKit Go.Proofs
set_option linter.unusedSimpArgs false
set_option linter.unusedVariables false
set_option maxRecDepth 10000 in
theorem backward_ok (xs : List SV) : CallOk Tryd.prog 65 [sln 3 xs] (.p (.one (.v (.clo 78 [.pt [.sl 3 xs] 0])))) [] false := by
  refine fn_ok' T_ok (noO_ok _) mixed Tryd.func65 rfl (by kernel_rfl) (lv [[1], [2]]) 4 rfl (by simp) rfl (by simp) ?_
  simp only [argsG, Nat.zero_add, Nat.reduceAdd]
  repeat' first
    | ((with_reducible refine vOps_cons' ?_)
       generalize hk : Kt _ _ _ _ _ _ _ _ _ = k
       simp only [Tryd.f65, lv, E1, E2, E5, ET, T, orc_mv, noO_mv, mvB, orc_bx, noO_bx, bxB, fwd, fwds, inv, mOk, Int.toNat_natCast, Nat.div_one, Nat.mul_one, Int.reduceToNat, List.not_mem_nil, true_or, or_true, true_and, and_true, decide_true, decide_false, Bool.and_self, Bool.or_self, ↓reduceIte, ne_eq, not_false_eq_true, not_true_eq_false, reduceCtorEq, Nat.reduceLT, Nat.reduceEqDiff, Nat.reduceAdd, Nat.reduceMul, Nat.reduceLeDiff, Nat.reduceDiv, Nat.reduceMod, Nat.reduceSub, Nat.reduceBEq, rn_len, chs_len, chs_cnt, List.length_map, Ch.x, Ch.inv, Ch.rx, Ch.rr, Opn.x, St.x, cut_rn, take_drop_len, List.length_append, List.length_take, List.length_drop, ← rn_app, Int.sub_zero, List.size_toArray, List.length_nil]
       try simp (disch := omega) only [wrap_in, Int.toNat_natCast, tv_rn, tv_ch0, tv_ch1, tv_ch2]
       subst hk)
    | with_reducible refine Kt_p ?_
    | with_reducible refine Kt_i (by kernel_rfl) ?_
    | with_reducible refine Kr_f (by kernel_rfl) ?_
    | (with_reducible refine Kr_t ?_; simp only [List.length_append, List.length_cons, List.length_nil, Nat.reduceAdd, Nat.reduceSub, List.drop_succ_cons, List.drop_zero])
    | with_reducible refine vR_nil ?_
    | with_reducible refine KtR_i (by kernel_rfl) ?_
    | with_reducible refine KrR_i (by kernel_rfl) ?_
    | with_reducible refine vR_skip (by decide) ?_
    | ((with_reducible refine vR_cons (by decide) ?_)
       generalize hk : KtR _ _ _ _ _ _ _ _ _ _ = k
       simp only [Tryd.f65, lv, E1, E2, E5, ET, T, orc_mv, noO_mv, mvB, orc_bx, noO_bx, bxB, fwd, fwds, inv, mOk, Int.toNat_natCast, Nat.div_one, Nat.mul_one, Int.reduceToNat, List.not_mem_nil, true_or, or_true, true_and, and_true, decide_true, decide_false, Bool.and_self, Bool.or_self, ↓reduceIte, ne_eq, not_false_eq_true, not_true_eq_false, reduceCtorEq, Nat.reduceLT, Nat.reduceEqDiff, Nat.reduceAdd, Nat.reduceMul, Nat.reduceLeDiff, Nat.reduceDiv, Nat.reduceMod, Nat.reduceSub, Nat.reduceBEq, rn_len, chs_len, chs_cnt, List.length_map, Ch.x, Ch.inv, Ch.rx, Ch.rr, Opn.x, St.x, cut_rn, take_drop_len, List.length_append, List.length_take, List.length_drop, ← rn_app, Int.sub_zero, List.size_toArray, List.length_nil]
       try simp (disch := omega) only [wrap_in, Int.toNat_natCast, tv_rn, tv_ch0, tv_ch1, tv_ch2]
       subst hk)
    | ((with_reducible refine vB_i ?_ ?_) <;> intro _ <;> (first | (exfalso; omega) | (exact absurd trivial ‹¬True›) | (try dsimp only [])))
    | ((with_reducible refine vOps_nil' ?_); refine Kr_i (by kernel_rfl) ?_; generalize hk : plain _ _ = G; simp only [lv, E3, E2, E5, rawX, deadX, List.not_mem_nil, true_or, or_true, true_and, and_true, decide_true, decide_false, Bool.and_self, Bool.or_self, ↓reduceIte, ne_eq, not_false_eq_true, not_true_eq_false, reduceCtorEq, Nat.reduceLT, Nat.reduceEqDiff, Nat.reduceAdd, Nat.reduceMul, Nat.reduceLeDiff, Nat.reduceDiv, Nat.reduceMod, Nat.reduceSub, Nat.reduceBEq, rn_len, chs_len, chs_cnt, List.length_map, Ch.x, Ch.inv, Ch.rx, Ch.rr, Opn.x, St.x, cut_rn, take_drop_len, List.length_append, List.length_take, List.length_drop, ← rn_app, Int.sub_zero, List.size_toArray, List.length_nil] at hk; subst hk)
    | with_reducible refine vSeq_i ?_
    | with_reducible refine vRegion_i (by kernel_rfl) ?_
    | with_reducible refine Kv_i ?_
    | ((with_reducible apply vStrK_i); (focus (rfl; done)))
    | ((with_reducible refine imp_i ?_); intro _)
    | with_reducible refine Ks_n ?_
    | with_reducible refine Ks_r ?_
    | with_reducible refine Ks_e ?_
    | with_reducible refine Kl_e ?_
    | with_reducible refine Kx_n ?_
    | with_reducible refine Kl_r ?_
    | with_reducible refine vRet_i ?_
    | with_reducible refine vSkip_i ?_
    | with_reducible refine vExit_i ?_
    | with_reducible refine vBlock_i ?_
    | with_reducible refine Ks_p ?_
    | with_reducible refine Kl_p ?_
    | with_reducible refine blk_p ?_
    | with_reducible exact Kb_p
    | with_reducible refine vGoto_i ?_
    | with_reducible refine vLabel_i ?_
    | with_reducible refine Ks_g ?_
    | with_reducible refine Kl_g ?_
    | with_reducible refine blk_g ?_
    | with_reducible refine jmp_g ?_
    | with_reducible refine jmp_n ?_
    | with_reducible refine jmp_r ?_
    | with_reducible refine nog_n ?_
    | with_reducible refine nog_r ?_
    | with_reducible refine blk_n ?_
    | with_reducible refine blk_r ?_
    | with_reducible refine blk_e ?_
    | with_reducible refine blk_o (by decide) ?_
    | ((with_reducible refine vCond_t ?_ ?_); (focus (simp only [lv, E1, E2, E5, ET, T, orc_mv, noO_mv, mvB, orc_bx, noO_bx, bxB, fwd, fwds, inv, mOk, Int.toNat_natCast, Nat.div_one, Nat.mul_one, Int.reduceToNat, List.not_mem_nil, true_or, or_true, true_and, and_true, decide_true, decide_false, Bool.and_self, Bool.or_self, ↓reduceIte, ne_eq, not_false_eq_true, not_true_eq_false, reduceCtorEq, Nat.reduceLT, Nat.reduceEqDiff, Nat.reduceAdd, Nat.reduceMul, Nat.reduceLeDiff, Nat.reduceDiv, Nat.reduceMod, Nat.reduceSub, Nat.reduceBEq, rn_len, chs_len, chs_cnt, List.length_map, Ch.x, Ch.inv, Ch.rx, Ch.rr, Opn.x, St.x, cut_rn, take_drop_len, List.length_append, List.length_take, List.length_drop, ← rn_app, Int.sub_zero, List.size_toArray, List.length_nil]; done)))
    | ((with_reducible refine vCond_f ?_ ?_); (focus (simp only [lv, E1, E2, E5, ET, T, orc_mv, noO_mv, mvB, orc_bx, noO_bx, bxB, fwd, fwds, inv, mOk, Int.toNat_natCast, Nat.div_one, Nat.mul_one, Int.reduceToNat, List.not_mem_nil, true_or, or_true, true_and, and_true, decide_true, decide_false, Bool.and_self, Bool.or_self, ↓reduceIte, ne_eq, not_false_eq_true, not_true_eq_false, reduceCtorEq, Nat.reduceLT, Nat.reduceEqDiff, Nat.reduceAdd, Nat.reduceMul, Nat.reduceLeDiff, Nat.reduceDiv, Nat.reduceMod, Nat.reduceSub, Nat.reduceBEq, rn_len, chs_len, chs_cnt, List.length_map, Ch.x, Ch.inv, Ch.rx, Ch.rr, Opn.x, St.x, cut_rn, take_drop_len, List.length_append, List.length_take, List.length_drop, ← rn_app, Int.sub_zero, List.size_toArray, List.length_nil]; done)))
    | ((with_reducible refine And.intro ?_ ?_); (focus (try omega)))
  refine Kf_r ?_
  simp only [Tryd.f65, E4, E3, E2, E5, rawX, deadX, ET, T, List.not_mem_nil, true_or, or_true, true_and, and_true, decide_true, decide_false, Bool.and_self, Bool.or_self, ↓reduceIte, ne_eq, not_false_eq_true, not_true_eq_false, reduceCtorEq, Nat.reduceLT, Nat.reduceEqDiff, Nat.reduceAdd, Nat.reduceMul, Nat.reduceLeDiff, Nat.reduceDiv, Nat.reduceMod, Nat.reduceSub, Nat.reduceBEq, rn_len, chs_len, chs_cnt, List.length_map, Ch.x, Ch.inv, Ch.rx, Ch.rr, Opn.x, St.x, cut_rn, take_drop_len, List.length_append, List.length_take, List.length_drop, ← rn_app, Int.sub_zero, List.size_toArray, List.length_nil]
theorem sv_ch {l : List Ch} {i : Nat} (h : i < l.length) : elemX true 3 (chs l) i = (l.getD i noCh).x := by
  unfold elemX
  rw [if_pos rfl]
  have e : ∀ j, j < 3 → TV.v (svAt (chs l) (i * 3 + j)) = ((chs l).map TV.v).getD (i * 3 + j) .dead := fun j hj => by
    have : i * 3 + j < (chs l).length := by rw [chs_len]; omega
    simp [svAt, List.getD, this]
  simp only [range_3, List.map_cons, List.map_nil]
  rw [e 0 (by omega), e 1 (by omega), e 2 (by omega), Nat.add_zero, tv_ch0 h, tv_ch1 h, tv_ch2 h]
  rfl
theorem chIter (l : List Ch) (hl : l.length ≤ 100000) : IterOk Tryd.prog 78 [.pt [.sl 3 (chs l)] 0] ((List.range l.length).map fun k => [i64 ((l.length : Int) - 1 - (k : Nat)), (l.getD (l.length - 1 - k) noCh).x]) := by
  have h := backward_iter (tS := 27) (tE := 64) (tY := 139) T_ok (f := 78) Tryd.func78 (by kernel_rfl) (by kernel_rfl) (by kernel_rfl) (by kernel_rfl) rfl rfl (by intro h; exact absurd h (by decide)) (by decide) (chs l) l.length (by rw [chs_len, Nat.mul_comm]; rfl) (by omega)
  have e : ((List.range l.length).map fun j => [i64 ((l.length : Int) - 1 - (j : Nat)), elemX ti64.k.agg ti64.size (chs l) (l.length - 1 - j)]) = (List.range l.length).map fun k => [i64 ((l.length : Int) - 1 - (k : Nat)), (l.getD (l.length - 1 - k) noCh).x] :=
    List.map_congr_left fun j hj => by
      have hj := List.mem_range.1 hj
      rw [show elemX ti64.k.agg ti64.size (chs l) (l.length - 1 - j) = elemX true 3 (chs l) (l.length - 1 - j) from rfl, sv_ch (by omega)]
  rw [← e]
  exact h
end Go.Proofs.YtdpflafjfkooeaaDoorG
