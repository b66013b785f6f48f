import Derived.Test.YtaleiogdokdplaaGreatDoorP1
namespace Go.Proofs.YtaleiogdokdplaaGreatDoorG
open Go Go.RowKit Go.Proofs
set_option linter.unusedSimpArgs false
set_option linter.unusedVariables false
def stores : List SV := [.raw (.pointer none), .pt [.sl 1 [], .sl 3 [], .sl 3 [], .raw (.int .i64 0), .raw (.int .i64 0), .raw (.int .i64 0), .raw (.int .i64 0), .raw (.int .i64 0), .raw (.int .i64 0), .raw (.pointer none), .raw (.pointer none), .raw (.pointer none), .raw (.pointer none), .raw (.int .i64 0), .raw (.bool false)] 0]
def storeAt (k : Nat) : SV := svAt stores k
theorem stores_len : stores.length = 2 := rfl
theorem store_no {k : Nat} (h : k < 2) : NoS (storeAt k) := by
  rcases (by omega : k = 0 ∨ k = 1) with rfl | rfl
  · exact .inl rfl
  · exact .inr rfl
theorem tv_store {k : Nat} (h : k < 2) : (List.map TV.v stores).getD k .dead = .v (storeAt k) := by
  rcases (by omega : k = 0 ∨ k = 1) with rfl | rfl <;> rfl
def disks : List SV := [.raw (.pointer none), .pt [.sl 64 [], .sl 65 [], .raw (.int .i64 0), .raw (.bool false), .raw (.int .i64 0)] 0]
def diskAt (k : Nat) : SV := svAt disks k
theorem disks_len : disks.length = 2 := rfl
theorem disk_no {k : Nat} (h : k < 2) : NoK (diskAt k) := by
  rcases (by omega : k = 0 ∨ k = 1) with rfl | rfl
  · exact .inl rfl
  · exact .inr rfl
theorem tv_disk {k : Nat} (h : k < 2) : (List.map TV.v disks).getD k .dead = .v (diskAt k) := by
  rcases (by omega : k = 0 ∨ k = 1) with rfl | rfl <;> rfl
set_option maxRecDepth 10000 in
set_option maxHeartbeats 4000000 in
theorem nobody_ok (kind n at_ p q r : Int) (text kept : List SV) (a b c : Int) : CallOk Tryz.prog 3 [.p (.agg [.v (.raw (.int .i64 kind)), .v (.raw (.int .i64 n)), .v (.raw (.int .i64 at_)), .v (.raw (.int .i64 p)), .v (.raw (.int .i64 q)), .v (.raw (.int .i64 r)), .v (.sl 1 text), .v (.sl 1 kept)]), .p (.agg [.v (.raw (.int .i64 a)), .v (.raw (.int .i64 b)), .v (.raw (.int .i64 c))])] (bo true) [] false := by
  refine fn_ok' T_ok (orc_ok _) mixed Tryz.func3 rfl (by kernel_rfl) (lv [[2, 3], [2, 3, 18, 19, 20], [2, 3, 18, 19, 20, 21], [2, 3, 6, 18, 19, 20], [2, 3, 6, 7, 8, 9, 18, 19, 20], [2, 3, 18, 19, 20, 83], [4], [2, 3, 18, 19, 20], [3, 87, 88, 89], [3, 87, 88, 89, 90], [3, 11, 87, 88, 89], [3, 11, 12, 13, 87, 88, 89], [3, 12, 13, 14, 15, 87, 88, 89], [3, 87, 88, 89, 118], [4], [3, 87, 88, 89], [4]]) 120 rfl (by simp) rfl (by simp) ?_
  simp only [argsG, Nat.zero_add, Nat.reduceAdd]
  repeat' first
    | ((with_reducible refine vOps_cons' ?_)
       generalize hk : Kt _ _ _ _ _ _ _ _ _ = k
       simp only [Tryz.f3, lv, E1, E2, E5, ET, T, Int.toNat_natCast, Nat.div_one, Nat.mul_one, Int.reduceToNat, true_or, or_true, true_and, and_true, decide_true, decide_false, Bool.and_self, Bool.or_self, ↓reduceIte, ne_eq, not_false_eq_true, not_true_eq_false, reduceCtorEq, Nat.reduceLT, Nat.reduceEqDiff, Nat.reduceAdd, Nat.reduceMul, Nat.reduceLeDiff, Nat.reduceDiv, Nat.reduceMod, Nat.reduceSub, Nat.reduceBEq, List.length_nil, List.length_map, stores_len, disks_len, Nat.zero_div, cnt_nil]
       try simp (disch := omega) only [wrap_in, Int.toNat_natCast, tv_store, tv_disk]
       subst hk)
    | with_reducible refine Kt_i ?_
    | ((with_reducible refine vB_i ?_ ?_) <;> intro hq <;> (first | (exfalso; omega) | (exact absurd trivial hq) | (try dsimp only [])))
    | ((with_reducible refine vOps_nil' ?_); refine Kr_i (by kernel_rfl) ?_; generalize hk : plain _ _ = G; simp only [lv, E3, E2, E5, rawX, deadX, true_or, or_true, true_and, and_true, decide_true, decide_false, Bool.and_self, Bool.or_self, ↓reduceIte, ne_eq, not_false_eq_true, not_true_eq_false, reduceCtorEq, Nat.reduceLT, Nat.reduceEqDiff, Nat.reduceAdd, Nat.reduceMul, Nat.reduceLeDiff, Nat.reduceDiv, Nat.reduceMod, Nat.reduceSub, Nat.reduceBEq, List.length_nil, List.length_map, stores_len, disks_len, Nat.zero_div, cnt_nil] at hk; subst hk)
    | with_reducible refine vSeq_i ?_
    | with_reducible refine vRegion_i (by kernel_rfl) ?_
    | with_reducible refine Kv_i ?_
    | ((with_reducible refine imp_i ?_); intro _)
    | with_reducible refine Ks_n ?_
    | with_reducible refine Ks_r ?_
    | with_reducible refine Ks_e ?_
    | with_reducible refine Kl_e ?_
    | with_reducible refine Kx_n ?_
    | with_reducible refine Kl_r ?_
    | with_reducible refine vRet_i ?_
    | with_reducible refine vSkip_i ?_
    | with_reducible refine vExit_i ?_
    | with_reducible refine vBlock_i ?_
    | with_reducible refine blk_n ?_
    | with_reducible refine blk_r ?_
    | with_reducible refine blk_e ?_
    | with_reducible refine blk_o (by decide) ?_
    | ((with_reducible refine vCond_t ?_ ?_); (focus (simp only [lv, E1, E2, E5, ET, T, Int.toNat_natCast, Nat.div_one, Nat.mul_one, Int.reduceToNat, true_or, or_true, true_and, and_true, decide_true, decide_false, Bool.and_self, Bool.or_self, ↓reduceIte, ne_eq, not_false_eq_true, not_true_eq_false, reduceCtorEq, Nat.reduceLT, Nat.reduceEqDiff, Nat.reduceAdd, Nat.reduceMul, Nat.reduceLeDiff, Nat.reduceDiv, Nat.reduceMod, Nat.reduceSub, Nat.reduceBEq, List.length_nil, List.length_map, stores_len, disks_len, Nat.zero_div, cnt_nil]; done)))
    | ((with_reducible refine vCond_f ?_ ?_); (focus (simp only [lv, E1, E2, E5, ET, T, Int.toNat_natCast, Nat.div_one, Nat.mul_one, Int.reduceToNat, true_or, or_true, true_and, and_true, decide_true, decide_false, Bool.and_self, Bool.or_self, ↓reduceIte, ne_eq, not_false_eq_true, not_true_eq_false, reduceCtorEq, Nat.reduceLT, Nat.reduceEqDiff, Nat.reduceAdd, Nat.reduceMul, Nat.reduceLeDiff, Nat.reduceDiv, Nat.reduceMod, Nat.reduceSub, Nat.reduceBEq, List.length_nil, List.length_map, stores_len, disks_len, Nat.zero_div, cnt_nil]; done)))
    | ((with_reducible refine And.intro ?_ ?_); (focus (try omega)))
  refine vLoop_s (fun k : Nat => [(.t 2, .t (.p (.one (.pr 0 0)))), (.t 3, .t (.p (.one (.pr 1 0)))), (.t 18, .t (.p (.one (.sr 2)))), (.t 19, .t (i64 2)), (.t 20, .t (i64 k)), (.box 0, .box 27 [.v (.raw (.int .i64 kind)), .v (.raw (.int .i64 n)), .v (.raw (.int .i64 at_)), .v (.raw (.int .i64 p)), .v (.raw (.int .i64 q)), .v (.raw (.int .i64 r)), .v (.sl 1 text), .v (.sl 1 kept)]), (.box 1, .box 29 [.v (.raw (.int .i64 a)), .v (.raw (.int .i64 b)), .v (.raw (.int .i64 c))]), (.row 2, .row 30 1 stores)]) (fun k => k ≤ 2) (fun k => 2 - k) 0 (by omega) rfl ?_
  intro k hk
  repeat' first
    | ((with_reducible refine vOps_cons' ?_)
       generalize hk : Kt _ _ _ _ _ _ _ _ _ = k
       simp only [Tryz.f3, lv, E1, E2, E5, ET, T, Int.toNat_natCast, Nat.div_one, Nat.mul_one, Int.reduceToNat, true_or, or_true, true_and, and_true, decide_true, decide_false, Bool.and_self, Bool.or_self, ↓reduceIte, ne_eq, not_false_eq_true, not_true_eq_false, reduceCtorEq, Nat.reduceLT, Nat.reduceEqDiff, Nat.reduceAdd, Nat.reduceMul, Nat.reduceLeDiff, Nat.reduceDiv, Nat.reduceMod, Nat.reduceSub, Nat.reduceBEq, List.length_nil, List.length_map, stores_len, disks_len, Nat.zero_div, cnt_nil]
       try simp (disch := omega) only [wrap_in, Int.toNat_natCast, tv_store, tv_disk]
       subst hk)
    | with_reducible refine Kt_i ?_
    | ((with_reducible refine vB_i ?_ ?_) <;> intro hq <;> (first | (exfalso; omega) | (exact absurd trivial hq) | (try dsimp only [])))
    | ((with_reducible refine vOps_nil' ?_); refine Kr_i (by kernel_rfl) ?_; generalize hk : plain _ _ = G; simp only [lv, E3, E2, E5, rawX, deadX, true_or, or_true, true_and, and_true, decide_true, decide_false, Bool.and_self, Bool.or_self, ↓reduceIte, ne_eq, not_false_eq_true, not_true_eq_false, reduceCtorEq, Nat.reduceLT, Nat.reduceEqDiff, Nat.reduceAdd, Nat.reduceMul, Nat.reduceLeDiff, Nat.reduceDiv, Nat.reduceMod, Nat.reduceSub, Nat.reduceBEq, List.length_nil, List.length_map, stores_len, disks_len, Nat.zero_div, cnt_nil] at hk; subst hk)
    | with_reducible refine vSeq_i ?_
    | with_reducible refine vRegion_i (by kernel_rfl) ?_
    | with_reducible refine Kv_i ?_
    | ((with_reducible refine imp_i ?_); intro _)
    | with_reducible refine Ks_n ?_
    | with_reducible refine Ks_r ?_
    | with_reducible refine Ks_e ?_
    | with_reducible refine Kl_e ?_
    | with_reducible refine Kx_n ?_
    | with_reducible refine Kl_r ?_
    | with_reducible refine vRet_i ?_
    | with_reducible refine vSkip_i ?_
    | with_reducible refine vExit_i ?_
    | with_reducible refine vBlock_i ?_
    | with_reducible refine blk_n ?_
    | with_reducible refine blk_r ?_
    | with_reducible refine blk_e ?_
    | with_reducible refine blk_o (by decide) ?_
    | ((with_reducible refine vCond_t ?_ ?_); (focus (simp only [lv, E1, E2, E5, ET, T, Int.toNat_natCast, Nat.div_one, Nat.mul_one, Int.reduceToNat, true_or, or_true, true_and, and_true, decide_true, decide_false, Bool.and_self, Bool.or_self, ↓reduceIte, ne_eq, not_false_eq_true, not_true_eq_false, reduceCtorEq, Nat.reduceLT, Nat.reduceEqDiff, Nat.reduceAdd, Nat.reduceMul, Nat.reduceLeDiff, Nat.reduceDiv, Nat.reduceMod, Nat.reduceSub, Nat.reduceBEq, List.length_nil, List.length_map, stores_len, disks_len, Nat.zero_div, cnt_nil]; done)))
    | ((with_reducible refine vCond_f ?_ ?_); (focus (simp only [lv, E1, E2, E5, ET, T, Int.toNat_natCast, Nat.div_one, Nat.mul_one, Int.reduceToNat, true_or, or_true, true_and, and_true, decide_true, decide_false, Bool.and_self, Bool.or_self, ↓reduceIte, ne_eq, not_false_eq_true, not_true_eq_false, reduceCtorEq, Nat.reduceLT, Nat.reduceEqDiff, Nat.reduceAdd, Nat.reduceMul, Nat.reduceLeDiff, Nat.reduceDiv, Nat.reduceMod, Nat.reduceSub, Nat.reduceBEq, List.length_nil, List.length_map, stores_len, disks_len, Nat.zero_div, cnt_nil]; done)))
    | ((with_reducible refine And.intro ?_ ?_); (focus (try omega)))
    | ((with_reducible apply orc_i); (focus (exact levels_ok _ (store_no (by omega)) _ _; done)); (generalize hk : Kt _ _ _ _ _ _ _ _ _ = k; simp only [lv, E1, E2, E5, ET, T, Int.toNat_natCast, Nat.div_one, Nat.mul_one, Int.reduceToNat, true_or, or_true, true_and, and_true, decide_true, decide_false, Bool.and_self, Bool.or_self, ↓reduceIte, ne_eq, not_false_eq_true, not_true_eq_false, reduceCtorEq, Nat.reduceLT, Nat.reduceEqDiff, Nat.reduceAdd, Nat.reduceMul, Nat.reduceLeDiff, Nat.reduceDiv, Nat.reduceMod, Nat.reduceSub, Nat.reduceBEq, List.length_nil, List.length_map, stores_len, disks_len, Nat.zero_div, cnt_nil]; (try simp (disch := omega) only [wrap_in, Int.toNat_natCast, tv_store, tv_disk]); subst hk))
    | ((with_reducible apply orc_i); (focus (exact do_ok _ (store_no (by omega)) _ _ _ _; done)); (generalize hk : Kt _ _ _ _ _ _ _ _ _ = k; simp only [lv, E1, E2, E5, ET, T, Int.toNat_natCast, Nat.div_one, Nat.mul_one, Int.reduceToNat, true_or, or_true, true_and, and_true, decide_true, decide_false, Bool.and_self, Bool.or_self, ↓reduceIte, ne_eq, not_false_eq_true, not_true_eq_false, reduceCtorEq, Nat.reduceLT, Nat.reduceEqDiff, Nat.reduceAdd, Nat.reduceMul, Nat.reduceLeDiff, Nat.reduceDiv, Nat.reduceMod, Nat.reduceSub, Nat.reduceBEq, List.length_nil, List.length_map, stores_len, disks_len, Nat.zero_div, cnt_nil]; (try simp (disch := omega) only [wrap_in, Int.toNat_natCast, tv_store, tv_disk]); subst hk))
    | ((with_reducible apply orc_i); (focus (exact sync_ok _ (store_no (by omega)); done)); (generalize hk : Kt _ _ _ _ _ _ _ _ _ = k; simp only [lv, E1, E2, E5, ET, T, Int.toNat_natCast, Nat.div_one, Nat.mul_one, Int.reduceToNat, true_or, or_true, true_and, and_true, decide_true, decide_false, Bool.and_self, Bool.or_self, ↓reduceIte, ne_eq, not_false_eq_true, not_true_eq_false, reduceCtorEq, Nat.reduceLT, Nat.reduceEqDiff, Nat.reduceAdd, Nat.reduceMul, Nat.reduceLeDiff, Nat.reduceDiv, Nat.reduceMod, Nat.reduceSub, Nat.reduceBEq, List.length_nil, List.length_map, stores_len, disks_len, Nat.zero_div, cnt_nil]; (try simp (disch := omega) only [wrap_in, Int.toNat_natCast, tv_store, tv_disk]); subst hk))
    | ((with_reducible apply orc_i); (focus (exact save_ok _ (store_no (by omega)); done)); (generalize hk : Kt _ _ _ _ _ _ _ _ _ = k; simp only [lv, E1, E2, E5, ET, T, Int.toNat_natCast, Nat.div_one, Nat.mul_one, Int.reduceToNat, true_or, or_true, true_and, and_true, decide_true, decide_false, Bool.and_self, Bool.or_self, ↓reduceIte, ne_eq, not_false_eq_true, not_true_eq_false, reduceCtorEq, Nat.reduceLT, Nat.reduceEqDiff, Nat.reduceAdd, Nat.reduceMul, Nat.reduceLeDiff, Nat.reduceDiv, Nat.reduceMod, Nat.reduceSub, Nat.reduceBEq, List.length_nil, List.length_map, stores_len, disks_len, Nat.zero_div, cnt_nil]; (try simp (disch := omega) only [wrap_in, Int.toNat_natCast, tv_store, tv_disk]); subst hk))
    | ((with_reducible apply orc_i); (focus (exact state_ok _ (store_no (by omega)); done)); (generalize hk : Kt _ _ _ _ _ _ _ _ _ = k; simp only [lv, E1, E2, E5, ET, T, Int.toNat_natCast, Nat.div_one, Nat.mul_one, Int.reduceToNat, true_or, or_true, true_and, and_true, decide_true, decide_false, Bool.and_self, Bool.or_self, ↓reduceIte, ne_eq, not_false_eq_true, not_true_eq_false, reduceCtorEq, Nat.reduceLT, Nat.reduceEqDiff, Nat.reduceAdd, Nat.reduceMul, Nat.reduceLeDiff, Nat.reduceDiv, Nat.reduceMod, Nat.reduceSub, Nat.reduceBEq, List.length_nil, List.length_map, stores_len, disks_len, Nat.zero_div, cnt_nil]; (try simp (disch := omega) only [wrap_in, Int.toNat_natCast, tv_store, tv_disk]); subst hk))
    | ((with_reducible apply orc_i); (focus (exact ssame_ok; done)); (generalize hk : Kt _ _ _ _ _ _ _ _ _ = k; simp only [lv, E1, E2, E5, ET, T, Int.toNat_natCast, Nat.div_one, Nat.mul_one, Int.reduceToNat, true_or, or_true, true_and, and_true, decide_true, decide_false, Bool.and_self, Bool.or_self, ↓reduceIte, ne_eq, not_false_eq_true, not_true_eq_false, reduceCtorEq, Nat.reduceLT, Nat.reduceEqDiff, Nat.reduceAdd, Nat.reduceMul, Nat.reduceLeDiff, Nat.reduceDiv, Nat.reduceMod, Nat.reduceSub, Nat.reduceBEq, List.length_nil, List.length_map, stores_len, disks_len, Nat.zero_div, cnt_nil]; (try simp (disch := omega) only [wrap_in, Int.toNat_natCast, tv_store, tv_disk]); subst hk))
    | ((with_reducible apply orc_i); (focus (exact count_ok _ (store_no (by omega)); done)); (generalize hk : Kt _ _ _ _ _ _ _ _ _ = k; simp only [lv, E1, E2, E5, ET, T, Int.toNat_natCast, Nat.div_one, Nat.mul_one, Int.reduceToNat, true_or, or_true, true_and, and_true, decide_true, decide_false, Bool.and_self, Bool.or_self, ↓reduceIte, ne_eq, not_false_eq_true, not_true_eq_false, reduceCtorEq, Nat.reduceLT, Nat.reduceEqDiff, Nat.reduceAdd, Nat.reduceMul, Nat.reduceLeDiff, Nat.reduceDiv, Nat.reduceMod, Nat.reduceSub, Nat.reduceBEq, List.length_nil, List.length_map, stores_len, disks_len, Nat.zero_div, cnt_nil]; (try simp (disch := omega) only [wrap_in, Int.toNat_natCast, tv_store, tv_disk]); subst hk))
    | ((with_reducible apply orc_i); (focus (exact kept_ok _ (store_no (by omega)); done)); (generalize hk : Kt _ _ _ _ _ _ _ _ _ = k; simp only [lv, E1, E2, E5, ET, T, Int.toNat_natCast, Nat.div_one, Nat.mul_one, Int.reduceToNat, true_or, or_true, true_and, and_true, decide_true, decide_false, Bool.and_self, Bool.or_self, ↓reduceIte, ne_eq, not_false_eq_true, not_true_eq_false, reduceCtorEq, Nat.reduceLT, Nat.reduceEqDiff, Nat.reduceAdd, Nat.reduceMul, Nat.reduceLeDiff, Nat.reduceDiv, Nat.reduceMod, Nat.reduceSub, Nat.reduceBEq, List.length_nil, List.length_map, stores_len, disks_len, Nat.zero_div, cnt_nil]; (try simp (disch := omega) only [wrap_in, Int.toNat_natCast, tv_store, tv_disk]); subst hk))
    | ((with_reducible apply orc_i); (focus (exact used_ok _ (store_no (by omega)); done)); (generalize hk : Kt _ _ _ _ _ _ _ _ _ = k; simp only [lv, E1, E2, E5, ET, T, Int.toNat_natCast, Nat.div_one, Nat.mul_one, Int.reduceToNat, true_or, or_true, true_and, and_true, decide_true, decide_false, Bool.and_self, Bool.or_self, ↓reduceIte, ne_eq, not_false_eq_true, not_true_eq_false, reduceCtorEq, Nat.reduceLT, Nat.reduceEqDiff, Nat.reduceAdd, Nat.reduceMul, Nat.reduceLeDiff, Nat.reduceDiv, Nat.reduceMod, Nat.reduceSub, Nat.reduceBEq, List.length_nil, List.length_map, stores_len, disks_len, Nat.zero_div, cnt_nil]; (try simp (disch := omega) only [wrap_in, Int.toNat_natCast, tv_store, tv_disk]); subst hk))
  · refine Kl_n ⟨k + 1, by omega, by omega, ?_⟩
    simp only [Int.natCast_add, Int.natCast_one]
  refine vLoop_s (fun k : Nat => [(.t 3, .t (.p (.one (.pr 0 0)))), (.t 87, .t (.p (.one (.sr 1)))), (.t 88, .t (i64 2)), (.t 89, .t (i64 k)), (.box 0, .box 29 [.v (.raw (.int .i64 a)), .v (.raw (.int .i64 b)), .v (.raw (.int .i64 c))]), (.row 1, .row 38 1 disks)]) (fun k => k ≤ 2) (fun k => 2 - k) 0 (by omega) rfl ?_
  intro k hk
  repeat' first
    | ((with_reducible refine vOps_cons' ?_)
       generalize hk : Kt _ _ _ _ _ _ _ _ _ = k
       simp only [Tryz.f3, lv, E1, E2, E5, ET, T, Int.toNat_natCast, Nat.div_one, Nat.mul_one, Int.reduceToNat, true_or, or_true, true_and, and_true, decide_true, decide_false, Bool.and_self, Bool.or_self, ↓reduceIte, ne_eq, not_false_eq_true, not_true_eq_false, reduceCtorEq, Nat.reduceLT, Nat.reduceEqDiff, Nat.reduceAdd, Nat.reduceMul, Nat.reduceLeDiff, Nat.reduceDiv, Nat.reduceMod, Nat.reduceSub, Nat.reduceBEq, List.length_nil, List.length_map, stores_len, disks_len, Nat.zero_div, cnt_nil]
       try simp (disch := omega) only [wrap_in, Int.toNat_natCast, tv_store, tv_disk]
       subst hk)
    | with_reducible refine Kt_i ?_
    | ((with_reducible refine vB_i ?_ ?_) <;> intro hq <;> (first | (exfalso; omega) | (exact absurd trivial hq) | (try dsimp only [])))
    | ((with_reducible refine vOps_nil' ?_); refine Kr_i (by kernel_rfl) ?_; generalize hk : plain _ _ = G; simp only [lv, E3, E2, E5, rawX, deadX, true_or, or_true, true_and, and_true, decide_true, decide_false, Bool.and_self, Bool.or_self, ↓reduceIte, ne_eq, not_false_eq_true, not_true_eq_false, reduceCtorEq, Nat.reduceLT, Nat.reduceEqDiff, Nat.reduceAdd, Nat.reduceMul, Nat.reduceLeDiff, Nat.reduceDiv, Nat.reduceMod, Nat.reduceSub, Nat.reduceBEq, List.length_nil, List.length_map, stores_len, disks_len, Nat.zero_div, cnt_nil] at hk; subst hk)
    | with_reducible refine vSeq_i ?_
    | with_reducible refine vRegion_i (by kernel_rfl) ?_
    | with_reducible refine Kv_i ?_
    | ((with_reducible refine imp_i ?_); intro _)
    | with_reducible refine Ks_n ?_
    | with_reducible refine Ks_r ?_
    | with_reducible refine Ks_e ?_
    | with_reducible refine Kl_e ?_
    | with_reducible refine Kx_n ?_
    | with_reducible refine Kl_r ?_
    | with_reducible refine vRet_i ?_
    | with_reducible refine vSkip_i ?_
    | with_reducible refine vExit_i ?_
    | with_reducible refine vBlock_i ?_
    | with_reducible refine blk_n ?_
    | with_reducible refine blk_r ?_
    | with_reducible refine blk_e ?_
    | with_reducible refine blk_o (by decide) ?_
    | ((with_reducible refine vCond_t ?_ ?_); (focus (simp only [lv, E1, E2, E5, ET, T, Int.toNat_natCast, Nat.div_one, Nat.mul_one, Int.reduceToNat, true_or, or_true, true_and, and_true, decide_true, decide_false, Bool.and_self, Bool.or_self, ↓reduceIte, ne_eq, not_false_eq_true, not_true_eq_false, reduceCtorEq, Nat.reduceLT, Nat.reduceEqDiff, Nat.reduceAdd, Nat.reduceMul, Nat.reduceLeDiff, Nat.reduceDiv, Nat.reduceMod, Nat.reduceSub, Nat.reduceBEq, List.length_nil, List.length_map, stores_len, disks_len, Nat.zero_div, cnt_nil]; done)))
    | ((with_reducible refine vCond_f ?_ ?_); (focus (simp only [lv, E1, E2, E5, ET, T, Int.toNat_natCast, Nat.div_one, Nat.mul_one, Int.reduceToNat, true_or, or_true, true_and, and_true, decide_true, decide_false, Bool.and_self, Bool.or_self, ↓reduceIte, ne_eq, not_false_eq_true, not_true_eq_false, reduceCtorEq, Nat.reduceLT, Nat.reduceEqDiff, Nat.reduceAdd, Nat.reduceMul, Nat.reduceLeDiff, Nat.reduceDiv, Nat.reduceMod, Nat.reduceSub, Nat.reduceBEq, List.length_nil, List.length_map, stores_len, disks_len, Nat.zero_div, cnt_nil]; done)))
    | ((with_reducible refine And.intro ?_ ?_); (focus (try omega)))
    | ((with_reducible apply orc_i); (focus (exact format_ok _ (disk_no (by omega)) _ _ _; done)); (generalize hk : Kt _ _ _ _ _ _ _ _ _ = k; simp only [lv, E1, E2, E5, ET, T, Int.toNat_natCast, Nat.div_one, Nat.mul_one, Int.reduceToNat, true_or, or_true, true_and, and_true, decide_true, decide_false, Bool.and_self, Bool.or_self, ↓reduceIte, ne_eq, not_false_eq_true, not_true_eq_false, reduceCtorEq, Nat.reduceLT, Nat.reduceEqDiff, Nat.reduceAdd, Nat.reduceMul, Nat.reduceLeDiff, Nat.reduceDiv, Nat.reduceMod, Nat.reduceSub, Nat.reduceBEq, List.length_nil, List.length_map, stores_len, disks_len, Nat.zero_div, cnt_nil]; (try simp (disch := omega) only [wrap_in, Int.toNat_natCast, tv_store, tv_disk]); subst hk))
    | ((with_reducible apply orc_i); (focus (exact open_ok _ (disk_no (by omega)) _ _ _; done)); (generalize hk : Kt _ _ _ _ _ _ _ _ _ = k; simp only [lv, E1, E2, E5, ET, T, Int.toNat_natCast, Nat.div_one, Nat.mul_one, Int.reduceToNat, true_or, or_true, true_and, and_true, decide_true, decide_false, Bool.and_self, Bool.or_self, ↓reduceIte, ne_eq, not_false_eq_true, not_true_eq_false, reduceCtorEq, Nat.reduceLT, Nat.reduceEqDiff, Nat.reduceAdd, Nat.reduceMul, Nat.reduceLeDiff, Nat.reduceDiv, Nat.reduceMod, Nat.reduceSub, Nat.reduceBEq, List.length_nil, List.length_map, stores_len, disks_len, Nat.zero_div, cnt_nil]; (try simp (disch := omega) only [wrap_in, Int.toNat_natCast, tv_store, tv_disk]); subst hk))
  · refine Kl_n ⟨k + 1, by omega, by omega, ?_⟩
    simp only [Int.natCast_add, Int.natCast_one]
  · refine Kf_r ?_
    simp only [Tryz.f3, E4, E3, E2, E5, rawX, deadX, ET, T, true_or, or_true, true_and, and_true, decide_true, decide_false, Bool.and_self, Bool.or_self, ↓reduceIte, ne_eq, not_false_eq_true, not_true_eq_false, reduceCtorEq, Nat.reduceLT, Nat.reduceEqDiff, Nat.reduceAdd, Nat.reduceMul, Nat.reduceLeDiff, Nat.reduceDiv, Nat.reduceMod, Nat.reduceSub, Nat.reduceBEq, List.length_nil, List.length_map, stores_len, disks_len, Nat.zero_div, cnt_nil]
end Go.Proofs.YtaleiogdokdplaaGreatDoorG
