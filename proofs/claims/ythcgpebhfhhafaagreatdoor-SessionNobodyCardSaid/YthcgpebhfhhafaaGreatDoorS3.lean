import Derived.Test.YthcgpebhfhhafaaGreatDoorS2
namespace Go.Proofs.YthcgpebhfhhafaaGreatDoorG
open Go Go.RowKit Go.Proofs
set_option linter.unusedSimpArgs false
set_option linter.unusedVariables false
def desks : List SV := [.raw (.pointer none), .pt [.raw (.pointer none), .raw (.int .i64 0), .raw (.map none)] 0]
def deskAt (k : Nat) : SV := svAt desks k
theorem desks_len : desks.length = 2 := rfl
theorem desk_no {k : Nat} (h : k < 2) : NoD (deskAt k) := by
  rcases (by omega : k = 0 ∨ k = 1) with rfl | rfl
  · exact .inl rfl
  · exact .inr rfl
theorem tv_desk {k : Nat} (h : k < 2) : (List.map TV.v desks).getD k .dead = .v (deskAt k) := by
  rcases (by omega : k = 0 ∨ k = 1) with rfl | rfl <;> rfl
def ones : List SV := List.replicate 11 (.raw (.int .i64 1))
theorem ones_len : ones.length = 11 := rfl
theorem tv_one {k : Nat} (h : k < 11) : (List.map TV.v ones).getD k .dead = .v (.raw (.int .i64 1)) := by
  unfold ones
  rw [List.map_replicate]
  simp only [List.getD, List.getElem?_replicate, h, if_true, Option.getD_some]
theorem cnt_nil (e : Nat) : cnt e [] = 0 := Nat.zero_div _
set_option maxRecDepth 10000 in
set_option maxHeartbeats 4000000 in
theorem nobody_ok (kind id at_ : Int) (bytes breaks : List SV) : CallOk Tryz.prog 3 [.p (.agg [.v (.raw (.int .i64 kind)), .v (.raw (.int .i64 id)), .v (.raw (.int .i64 at_)), .v (.sl 1 bytes), .v (.sl 1 breaks)])] (bo true) [] false := by
  refine fn_ok' T_ok (orc_ok _) mixed Tryz.func3 rfl (by kernel_rfl) (lv [[1], [1, 22, 23, 24], [1, 22, 23, 24, 25], [1, 4, 22, 23, 24], [1, 4, 5, 6, 22, 23, 24], [1, 4, 5, 6, 7, 8, 9, 22, 23, 24], [1, 4, 5, 6, 7, 8, 9, 10, 11, 22, 23, 24], [1, 4, 5, 6, 7, 8, 9, 10, 11, 12, 13, 22, 23, 24], [1, 4, 6, 9, 11, 13, 22, 23, 24, 76], [2], [1, 22, 23, 24, 119, 120, 121], [1, 22, 23, 24, 119, 120, 121, 122], [1, 15, 22, 23, 24, 119, 120, 121], [1, 22, 23, 24, 119, 120, 121, 126], [2], [1, 22, 23, 24, 119, 120, 121], [1, 22, 23, 24], [16, 17], [16, 17, 18, 19], [2]]) 153 rfl (by simp) rfl (by simp) ?_
  simp only [argsG, Nat.zero_add, Nat.reduceAdd]
  repeat' first
    | ((with_reducible refine vOps_cons' ?_)
       generalize hk : Kt _ _ _ _ _ _ _ _ _ = k
       simp only [Tryz.f3, lv, E1, E2, E5, ET, T, Int.toNat_natCast, Nat.div_one, Nat.mul_one, Int.reduceToNat, true_or, or_true, true_and, and_true, decide_true, decide_false, Bool.and_self, Bool.or_self, ↓reduceIte, ne_eq, not_false_eq_true, not_true_eq_false, reduceCtorEq, Nat.reduceLT, Nat.reduceEqDiff, Nat.reduceAdd, Nat.reduceMul, Nat.reduceLeDiff, Nat.reduceDiv, Nat.reduceMod, Nat.reduceSub, Nat.reduceBEq, List.length_nil, List.length_map, desks_len, ones_len, Nat.zero_div, cnt_nil]
       try simp (disch := omega) only [wrap_in, Int.toNat_natCast, tv_desk, tv_one]
       subst hk)
    | with_reducible refine Kt_i ?_
    | ((with_reducible refine vB_i ?_ ?_) <;> intro hq <;> (first | (exfalso; omega) | (exact absurd trivial hq) | (try dsimp only [])))
    | ((with_reducible refine vOps_nil' ?_); refine Kr_i (by kernel_rfl) ?_; generalize hk : plain _ _ = G; simp only [lv, E3, E2, E5, rawX, deadX, true_or, or_true, true_and, and_true, decide_true, decide_false, Bool.and_self, Bool.or_self, ↓reduceIte, ne_eq, not_false_eq_true, not_true_eq_false, reduceCtorEq, Nat.reduceLT, Nat.reduceEqDiff, Nat.reduceAdd, Nat.reduceMul, Nat.reduceLeDiff, Nat.reduceDiv, Nat.reduceMod, Nat.reduceSub, Nat.reduceBEq, List.length_nil, List.length_map, desks_len, ones_len, Nat.zero_div, cnt_nil] at hk; subst hk)
    | with_reducible refine vSeq_i ?_
    | with_reducible refine vRegion_i (by kernel_rfl) ?_
    | with_reducible refine Kv_i ?_
    | ((with_reducible refine imp_i ?_); intro _)
    | with_reducible refine Ks_n ?_
    | with_reducible refine Ks_r ?_
    | with_reducible refine Ks_e ?_
    | with_reducible refine Kl_e ?_
    | with_reducible refine Kx_n ?_
    | with_reducible refine Kl_r ?_
    | with_reducible refine vRet_i ?_
    | with_reducible refine vSkip_i ?_
    | with_reducible refine vExit_i ?_
    | with_reducible refine vBlock_i ?_
    | with_reducible refine blk_n ?_
    | with_reducible refine blk_r ?_
    | with_reducible refine blk_e ?_
    | with_reducible refine blk_o (by decide) ?_
    | ((with_reducible refine vCond_t ?_ ?_); (focus (simp only [lv, E1, E2, E5, ET, T, Int.toNat_natCast, Nat.div_one, Nat.mul_one, Int.reduceToNat, true_or, or_true, true_and, and_true, decide_true, decide_false, Bool.and_self, Bool.or_self, ↓reduceIte, ne_eq, not_false_eq_true, not_true_eq_false, reduceCtorEq, Nat.reduceLT, Nat.reduceEqDiff, Nat.reduceAdd, Nat.reduceMul, Nat.reduceLeDiff, Nat.reduceDiv, Nat.reduceMod, Nat.reduceSub, Nat.reduceBEq, List.length_nil, List.length_map, desks_len, ones_len, Nat.zero_div, cnt_nil]; done)))
    | ((with_reducible refine vCond_f ?_ ?_); (focus (simp only [lv, E1, E2, E5, ET, T, Int.toNat_natCast, Nat.div_one, Nat.mul_one, Int.reduceToNat, true_or, or_true, true_and, and_true, decide_true, decide_false, Bool.and_self, Bool.or_self, ↓reduceIte, ne_eq, not_false_eq_true, not_true_eq_false, reduceCtorEq, Nat.reduceLT, Nat.reduceEqDiff, Nat.reduceAdd, Nat.reduceMul, Nat.reduceLeDiff, Nat.reduceDiv, Nat.reduceMod, Nat.reduceSub, Nat.reduceBEq, List.length_nil, List.length_map, desks_len, ones_len, Nat.zero_div, cnt_nil]; done)))
    | ((with_reducible refine And.intro ?_ ?_); (focus (try omega)))
  refine vLoop_s (fun k : Nat => [(.t 1, .t (.p (.one (.pr 0 0)))), (.t 22, .t (.p (.one (.sr 1)))), (.t 23, .t (i64 2)), (.t 24, .t (i64 k)), (.box 0, .box 25 [.v (.raw (.int .i64 kind)), .v (.raw (.int .i64 id)), .v (.raw (.int .i64 at_)), .v (.sl 1 bytes), .v (.sl 1 breaks)]), (.row 1, .row 26 1 desks)]) (fun k => k ≤ 2) (fun k => 2 - k) 0 (by omega) rfl ?_
  intro k hk
  repeat' first
    | ((with_reducible refine vOps_cons' ?_)
       generalize hk : Kt _ _ _ _ _ _ _ _ _ = k
       simp only [Tryz.f3, lv, E1, E2, E5, ET, T, Int.toNat_natCast, Nat.div_one, Nat.mul_one, Int.reduceToNat, true_or, or_true, true_and, and_true, decide_true, decide_false, Bool.and_self, Bool.or_self, ↓reduceIte, ne_eq, not_false_eq_true, not_true_eq_false, reduceCtorEq, Nat.reduceLT, Nat.reduceEqDiff, Nat.reduceAdd, Nat.reduceMul, Nat.reduceLeDiff, Nat.reduceDiv, Nat.reduceMod, Nat.reduceSub, Nat.reduceBEq, List.length_nil, List.length_map, desks_len, ones_len, Nat.zero_div, cnt_nil]
       try simp (disch := omega) only [wrap_in, Int.toNat_natCast, tv_desk, tv_one]
       subst hk)
    | with_reducible refine Kt_i ?_
    | ((with_reducible refine vB_i ?_ ?_) <;> intro hq <;> (first | (exfalso; omega) | (exact absurd trivial hq) | (try dsimp only [])))
    | ((with_reducible refine vOps_nil' ?_); refine Kr_i (by kernel_rfl) ?_; generalize hk : plain _ _ = G; simp only [lv, E3, E2, E5, rawX, deadX, true_or, or_true, true_and, and_true, decide_true, decide_false, Bool.and_self, Bool.or_self, ↓reduceIte, ne_eq, not_false_eq_true, not_true_eq_false, reduceCtorEq, Nat.reduceLT, Nat.reduceEqDiff, Nat.reduceAdd, Nat.reduceMul, Nat.reduceLeDiff, Nat.reduceDiv, Nat.reduceMod, Nat.reduceSub, Nat.reduceBEq, List.length_nil, List.length_map, desks_len, ones_len, Nat.zero_div, cnt_nil] at hk; subst hk)
    | with_reducible refine vSeq_i ?_
    | with_reducible refine vRegion_i (by kernel_rfl) ?_
    | with_reducible refine Kv_i ?_
    | ((with_reducible refine imp_i ?_); intro _)
    | with_reducible refine Ks_n ?_
    | with_reducible refine Ks_r ?_
    | with_reducible refine Ks_e ?_
    | with_reducible refine Kl_e ?_
    | with_reducible refine Kx_n ?_
    | with_reducible refine Kl_r ?_
    | with_reducible refine vRet_i ?_
    | with_reducible refine vSkip_i ?_
    | with_reducible refine vExit_i ?_
    | with_reducible refine vBlock_i ?_
    | with_reducible refine blk_n ?_
    | with_reducible refine blk_r ?_
    | with_reducible refine blk_e ?_
    | with_reducible refine blk_o (by decide) ?_
    | ((with_reducible refine vCond_t ?_ ?_); (focus (simp only [lv, E1, E2, E5, ET, T, Int.toNat_natCast, Nat.div_one, Nat.mul_one, Int.reduceToNat, true_or, or_true, true_and, and_true, decide_true, decide_false, Bool.and_self, Bool.or_self, ↓reduceIte, ne_eq, not_false_eq_true, not_true_eq_false, reduceCtorEq, Nat.reduceLT, Nat.reduceEqDiff, Nat.reduceAdd, Nat.reduceMul, Nat.reduceLeDiff, Nat.reduceDiv, Nat.reduceMod, Nat.reduceSub, Nat.reduceBEq, List.length_nil, List.length_map, desks_len, ones_len, Nat.zero_div, cnt_nil]; done)))
    | ((with_reducible refine vCond_f ?_ ?_); (focus (simp only [lv, E1, E2, E5, ET, T, Int.toNat_natCast, Nat.div_one, Nat.mul_one, Int.reduceToNat, true_or, or_true, true_and, and_true, decide_true, decide_false, Bool.and_self, Bool.or_self, ↓reduceIte, ne_eq, not_false_eq_true, not_true_eq_false, reduceCtorEq, Nat.reduceLT, Nat.reduceEqDiff, Nat.reduceAdd, Nat.reduceMul, Nat.reduceLeDiff, Nat.reduceDiv, Nat.reduceMod, Nat.reduceSub, Nat.reduceBEq, List.length_nil, List.length_map, desks_len, ones_len, Nat.zero_div, cnt_nil]; done)))
    | ((with_reducible refine And.intro ?_ ?_); (focus (try omega)))
    | ((with_reducible apply orc_i); (focus (exact open_ok _ (desk_no (by omega)); done)); (generalize hk : Kt _ _ _ _ _ _ _ _ _ = k; simp only [lv, E1, E2, E5, ET, T, Int.toNat_natCast, Nat.div_one, Nat.mul_one, Int.reduceToNat, true_or, or_true, true_and, and_true, decide_true, decide_false, Bool.and_self, Bool.or_self, ↓reduceIte, ne_eq, not_false_eq_true, not_true_eq_false, reduceCtorEq, Nat.reduceLT, Nat.reduceEqDiff, Nat.reduceAdd, Nat.reduceMul, Nat.reduceLeDiff, Nat.reduceDiv, Nat.reduceMod, Nat.reduceSub, Nat.reduceBEq, List.length_nil, List.length_map, desks_len, ones_len, Nat.zero_div, cnt_nil]; (try simp (disch := omega) only [wrap_in, Int.toNat_natCast, tv_desk, tv_one]); subst hk))
    | ((with_reducible apply orc_i); (focus (exact place_ok _ (desk_no (by omega)) _; done)); (generalize hk : Kt _ _ _ _ _ _ _ _ _ = k; simp only [lv, E1, E2, E5, ET, T, Int.toNat_natCast, Nat.div_one, Nat.mul_one, Int.reduceToNat, true_or, or_true, true_and, and_true, decide_true, decide_false, Bool.and_self, Bool.or_self, ↓reduceIte, ne_eq, not_false_eq_true, not_true_eq_false, reduceCtorEq, Nat.reduceLT, Nat.reduceEqDiff, Nat.reduceAdd, Nat.reduceMul, Nat.reduceLeDiff, Nat.reduceDiv, Nat.reduceMod, Nat.reduceSub, Nat.reduceBEq, List.length_nil, List.length_map, desks_len, ones_len, Nat.zero_div, cnt_nil]; (try simp (disch := omega) only [wrap_in, Int.toNat_natCast, tv_desk, tv_one]); subst hk))
    | ((with_reducible apply orc_i); (focus (exact shown_ok _ (desk_no (by omega)) _ _; done)); (generalize hk : Kt _ _ _ _ _ _ _ _ _ = k; simp only [lv, E1, E2, E5, ET, T, Int.toNat_natCast, Nat.div_one, Nat.mul_one, Int.reduceToNat, true_or, or_true, true_and, and_true, decide_true, decide_false, Bool.and_self, Bool.or_self, ↓reduceIte, ne_eq, not_false_eq_true, not_true_eq_false, reduceCtorEq, Nat.reduceLT, Nat.reduceEqDiff, Nat.reduceAdd, Nat.reduceMul, Nat.reduceLeDiff, Nat.reduceDiv, Nat.reduceMod, Nat.reduceSub, Nat.reduceBEq, List.length_nil, List.length_map, desks_len, ones_len, Nat.zero_div, cnt_nil]; (try simp (disch := omega) only [wrap_in, Int.toNat_natCast, tv_desk, tv_one]); subst hk))
    | ((with_reducible apply orc_i); (focus (exact picked_ok _ (desk_no (by omega)) _; done)); (generalize hk : Kt _ _ _ _ _ _ _ _ _ = k; simp only [lv, E1, E2, E5, ET, T, Int.toNat_natCast, Nat.div_one, Nat.mul_one, Int.reduceToNat, true_or, or_true, true_and, and_true, decide_true, decide_false, Bool.and_self, Bool.or_self, ↓reduceIte, ne_eq, not_false_eq_true, not_true_eq_false, reduceCtorEq, Nat.reduceLT, Nat.reduceEqDiff, Nat.reduceAdd, Nat.reduceMul, Nat.reduceLeDiff, Nat.reduceDiv, Nat.reduceMod, Nat.reduceSub, Nat.reduceBEq, List.length_nil, List.length_map, desks_len, ones_len, Nat.zero_div, cnt_nil]; (try simp (disch := omega) only [wrap_in, Int.toNat_natCast, tv_desk, tv_one]); subst hk))
    | ((with_reducible apply orc_i); (focus (exact close_ok _ (desk_no (by omega)) _; done)); (generalize hk : Kt _ _ _ _ _ _ _ _ _ = k; simp only [lv, E1, E2, E5, ET, T, Int.toNat_natCast, Nat.div_one, Nat.mul_one, Int.reduceToNat, true_or, or_true, true_and, and_true, decide_true, decide_false, Bool.and_self, Bool.or_self, ↓reduceIte, ne_eq, not_false_eq_true, not_true_eq_false, reduceCtorEq, Nat.reduceLT, Nat.reduceEqDiff, Nat.reduceAdd, Nat.reduceMul, Nat.reduceLeDiff, Nat.reduceDiv, Nat.reduceMod, Nat.reduceSub, Nat.reduceBEq, List.length_nil, List.length_map, desks_len, ones_len, Nat.zero_div, cnt_nil]; (try simp (disch := omega) only [wrap_in, Int.toNat_natCast, tv_desk, tv_one]); subst hk))
    | ((with_reducible apply orc_i); (focus (exact go_ok _ (desk_no (by omega)) _ _; done)); (generalize hk : Kt _ _ _ _ _ _ _ _ _ = k; simp only [lv, E1, E2, E5, ET, T, Int.toNat_natCast, Nat.div_one, Nat.mul_one, Int.reduceToNat, true_or, or_true, true_and, and_true, decide_true, decide_false, Bool.and_self, Bool.or_self, ↓reduceIte, ne_eq, not_false_eq_true, not_true_eq_false, reduceCtorEq, Nat.reduceLT, Nat.reduceEqDiff, Nat.reduceAdd, Nat.reduceMul, Nat.reduceLeDiff, Nat.reduceDiv, Nat.reduceMod, Nat.reduceSub, Nat.reduceBEq, List.length_nil, List.length_map, desks_len, ones_len, Nat.zero_div, cnt_nil]; (try simp (disch := omega) only [wrap_in, Int.toNat_natCast, tv_desk, tv_one]); subst hk))
    | ((with_reducible apply orc_i); (focus (exact mark_ok _ (desk_no (by omega)) _ _; done)); (generalize hk : Kt _ _ _ _ _ _ _ _ _ = k; simp only [lv, E1, E2, E5, ET, T, Int.toNat_natCast, Nat.div_one, Nat.mul_one, Int.reduceToNat, true_or, or_true, true_and, and_true, decide_true, decide_false, Bool.and_self, Bool.or_self, ↓reduceIte, ne_eq, not_false_eq_true, not_true_eq_false, reduceCtorEq, Nat.reduceLT, Nat.reduceEqDiff, Nat.reduceAdd, Nat.reduceMul, Nat.reduceLeDiff, Nat.reduceDiv, Nat.reduceMod, Nat.reduceSub, Nat.reduceBEq, List.length_nil, List.length_map, desks_len, ones_len, Nat.zero_div, cnt_nil]; (try simp (disch := omega) only [wrap_in, Int.toNat_natCast, tv_desk, tv_one]); subst hk))
    | ((with_reducible apply orc_i); (focus (exact type_ok _ (desk_no (by omega)) _ _; done)); (generalize hk : Kt _ _ _ _ _ _ _ _ _ = k; simp only [lv, E1, E2, E5, ET, T, Int.toNat_natCast, Nat.div_one, Nat.mul_one, Int.reduceToNat, true_or, or_true, true_and, and_true, decide_true, decide_false, Bool.and_self, Bool.or_self, ↓reduceIte, ne_eq, not_false_eq_true, not_true_eq_false, reduceCtorEq, Nat.reduceLT, Nat.reduceEqDiff, Nat.reduceAdd, Nat.reduceMul, Nat.reduceLeDiff, Nat.reduceDiv, Nat.reduceMod, Nat.reduceSub, Nat.reduceBEq, List.length_nil, List.length_map, desks_len, ones_len, Nat.zero_div, cnt_nil]; (try simp (disch := omega) only [wrap_in, Int.toNat_natCast, tv_desk, tv_one]); subst hk))
    | ((with_reducible apply orc_i); (focus (exact erase_ok _ (desk_no (by omega)) _; done)); (generalize hk : Kt _ _ _ _ _ _ _ _ _ = k; simp only [lv, E1, E2, E5, ET, T, Int.toNat_natCast, Nat.div_one, Nat.mul_one, Int.reduceToNat, true_or, or_true, true_and, and_true, decide_true, decide_false, Bool.and_self, Bool.or_self, ↓reduceIte, ne_eq, not_false_eq_true, not_true_eq_false, reduceCtorEq, Nat.reduceLT, Nat.reduceEqDiff, Nat.reduceAdd, Nat.reduceMul, Nat.reduceLeDiff, Nat.reduceDiv, Nat.reduceMod, Nat.reduceSub, Nat.reduceBEq, List.length_nil, List.length_map, desks_len, ones_len, Nat.zero_div, cnt_nil]; (try simp (disch := omega) only [wrap_in, Int.toNat_natCast, tv_desk, tv_one]); subst hk))
    | ((with_reducible apply orc_i); (focus (exact back_ok _ (desk_no (by omega)) _ _; done)); (generalize hk : Kt _ _ _ _ _ _ _ _ _ = k; simp only [lv, E1, E2, E5, ET, T, Int.toNat_natCast, Nat.div_one, Nat.mul_one, Int.reduceToNat, true_or, or_true, true_and, and_true, decide_true, decide_false, Bool.and_self, Bool.or_self, ↓reduceIte, ne_eq, not_false_eq_true, not_true_eq_false, reduceCtorEq, Nat.reduceLT, Nat.reduceEqDiff, Nat.reduceAdd, Nat.reduceMul, Nat.reduceLeDiff, Nat.reduceDiv, Nat.reduceMod, Nat.reduceSub, Nat.reduceBEq, List.length_nil, List.length_map, desks_len, ones_len, Nat.zero_div, cnt_nil]; (try simp (disch := omega) only [wrap_in, Int.toNat_natCast, tv_desk, tv_one]); subst hk))
    | ((with_reducible apply orc_i); (focus (exact walk_ok _ (desk_no (by omega)) _ _; done)); (generalize hk : Kt _ _ _ _ _ _ _ _ _ = k; simp only [lv, E1, E2, E5, ET, T, Int.toNat_natCast, Nat.div_one, Nat.mul_one, Int.reduceToNat, true_or, or_true, true_and, and_true, decide_true, decide_false, Bool.and_self, Bool.or_self, ↓reduceIte, ne_eq, not_false_eq_true, not_true_eq_false, reduceCtorEq, Nat.reduceLT, Nat.reduceEqDiff, Nat.reduceAdd, Nat.reduceMul, Nat.reduceLeDiff, Nat.reduceDiv, Nat.reduceMod, Nat.reduceSub, Nat.reduceBEq, List.length_nil, List.length_map, desks_len, ones_len, Nat.zero_div, cnt_nil]; (try simp (disch := omega) only [wrap_in, Int.toNat_natCast, tv_desk, tv_one]); subst hk))
    | ((with_reducible apply orc_i); (focus (exact new_ok _ (by first | exact .inl rfl | exact .inr rfl); done)); (generalize hk : Kt _ _ _ _ _ _ _ _ _ = k; simp only [lv, E1, E2, E5, ET, T, Int.toNat_natCast, Nat.div_one, Nat.mul_one, Int.reduceToNat, true_or, or_true, true_and, and_true, decide_true, decide_false, Bool.and_self, Bool.or_self, ↓reduceIte, ne_eq, not_false_eq_true, not_true_eq_false, reduceCtorEq, Nat.reduceLT, Nat.reduceEqDiff, Nat.reduceAdd, Nat.reduceMul, Nat.reduceLeDiff, Nat.reduceDiv, Nat.reduceMod, Nat.reduceSub, Nat.reduceBEq, List.length_nil, List.length_map, desks_len, ones_len, Nat.zero_div, cnt_nil]; (try simp (disch := omega) only [wrap_in, Int.toNat_natCast, tv_desk, tv_one]); subst hk))
  refine vLoop_s (fun j : Nat => [(.t 1, .t (.p (.one (.pr 0 0)))), (.t 22, .t (.p (.one (.sr 1)))), (.t 23, .t (i64 2)), (.t 24, .t (i64 k)), (.t 119, .t (.p (.one (.sr 2)))), (.t 120, .t (i64 11)), (.t 121, .t (i64 j)), (.box 0, .box 25 [.v (.raw (.int .i64 kind)), .v (.raw (.int .i64 id)), .v (.raw (.int .i64 at_)), .v (.sl 1 bytes), .v (.sl 1 breaks)]), (.row 1, .row 26 1 desks), (.row 2, .row 32 1 ones)]) (fun j => j ≤ 11) (fun j => 11 - j) 0 (by omega) rfl ?_
  intro j hj
  repeat' first
    | ((with_reducible refine vOps_cons' ?_)
       generalize hk : Kt _ _ _ _ _ _ _ _ _ = k
       simp only [Tryz.f3, lv, E1, E2, E5, ET, T, Int.toNat_natCast, Nat.div_one, Nat.mul_one, Int.reduceToNat, true_or, or_true, true_and, and_true, decide_true, decide_false, Bool.and_self, Bool.or_self, ↓reduceIte, ne_eq, not_false_eq_true, not_true_eq_false, reduceCtorEq, Nat.reduceLT, Nat.reduceEqDiff, Nat.reduceAdd, Nat.reduceMul, Nat.reduceLeDiff, Nat.reduceDiv, Nat.reduceMod, Nat.reduceSub, Nat.reduceBEq, List.length_nil, List.length_map, desks_len, ones_len, Nat.zero_div, cnt_nil]
       try simp (disch := omega) only [wrap_in, Int.toNat_natCast, tv_desk, tv_one]
       subst hk)
    | with_reducible refine Kt_i ?_
    | ((with_reducible refine vB_i ?_ ?_) <;> intro hq <;> (first | (exfalso; omega) | (exact absurd trivial hq) | (try dsimp only [])))
    | ((with_reducible refine vOps_nil' ?_); refine Kr_i (by kernel_rfl) ?_; generalize hk : plain _ _ = G; simp only [lv, E3, E2, E5, rawX, deadX, true_or, or_true, true_and, and_true, decide_true, decide_false, Bool.and_self, Bool.or_self, ↓reduceIte, ne_eq, not_false_eq_true, not_true_eq_false, reduceCtorEq, Nat.reduceLT, Nat.reduceEqDiff, Nat.reduceAdd, Nat.reduceMul, Nat.reduceLeDiff, Nat.reduceDiv, Nat.reduceMod, Nat.reduceSub, Nat.reduceBEq, List.length_nil, List.length_map, desks_len, ones_len, Nat.zero_div, cnt_nil] at hk; subst hk)
    | with_reducible refine vSeq_i ?_
    | with_reducible refine vRegion_i (by kernel_rfl) ?_
    | with_reducible refine Kv_i ?_
    | ((with_reducible refine imp_i ?_); intro _)
    | with_reducible refine Ks_n ?_
    | with_reducible refine Ks_r ?_
    | with_reducible refine Ks_e ?_
    | with_reducible refine Kl_e ?_
    | with_reducible refine Kx_n ?_
    | with_reducible refine Kl_r ?_
    | with_reducible refine vRet_i ?_
    | with_reducible refine vSkip_i ?_
    | with_reducible refine vExit_i ?_
    | with_reducible refine vBlock_i ?_
    | with_reducible refine blk_n ?_
    | with_reducible refine blk_r ?_
    | with_reducible refine blk_e ?_
    | with_reducible refine blk_o (by decide) ?_
    | ((with_reducible refine vCond_t ?_ ?_); (focus (simp only [lv, E1, E2, E5, ET, T, Int.toNat_natCast, Nat.div_one, Nat.mul_one, Int.reduceToNat, true_or, or_true, true_and, and_true, decide_true, decide_false, Bool.and_self, Bool.or_self, ↓reduceIte, ne_eq, not_false_eq_true, not_true_eq_false, reduceCtorEq, Nat.reduceLT, Nat.reduceEqDiff, Nat.reduceAdd, Nat.reduceMul, Nat.reduceLeDiff, Nat.reduceDiv, Nat.reduceMod, Nat.reduceSub, Nat.reduceBEq, List.length_nil, List.length_map, desks_len, ones_len, Nat.zero_div, cnt_nil]; done)))
    | ((with_reducible refine vCond_f ?_ ?_); (focus (simp only [lv, E1, E2, E5, ET, T, Int.toNat_natCast, Nat.div_one, Nat.mul_one, Int.reduceToNat, true_or, or_true, true_and, and_true, decide_true, decide_false, Bool.and_self, Bool.or_self, ↓reduceIte, ne_eq, not_false_eq_true, not_true_eq_false, reduceCtorEq, Nat.reduceLT, Nat.reduceEqDiff, Nat.reduceAdd, Nat.reduceMul, Nat.reduceLeDiff, Nat.reduceDiv, Nat.reduceMod, Nat.reduceSub, Nat.reduceBEq, List.length_nil, List.length_map, desks_len, ones_len, Nat.zero_div, cnt_nil]; done)))
    | ((with_reducible refine And.intro ?_ ?_); (focus (try omega)))
  · refine Kl_n ⟨j + 1, by omega, by omega, ?_⟩
    simp only [Int.natCast_add, Int.natCast_one]
  · refine Kl_n ⟨k + 1, by omega, by omega, ?_⟩
    simp only [Int.natCast_add, Int.natCast_one]
  · refine Kf_r ?_
    simp only [Tryz.f3, E4, E3, E2, E5, rawX, deadX, ET, T, true_or, or_true, true_and, and_true, decide_true, decide_false, Bool.and_self, Bool.or_self, ↓reduceIte, ne_eq, not_false_eq_true, not_true_eq_false, reduceCtorEq, Nat.reduceLT, Nat.reduceEqDiff, Nat.reduceAdd, Nat.reduceMul, Nat.reduceLeDiff, Nat.reduceDiv, Nat.reduceMod, Nat.reduceSub, Nat.reduceBEq, List.length_nil, List.length_map, desks_len, ones_len, Nat.zero_div, cnt_nil]
end Go.Proofs.YthcgpebhfhhafaaGreatDoorG
