/- YtdpflafjfkooeaaGreatDoorZ25: a part of the proof, joined of its texts. -/
import Derived.Test.YtdpflafjfkooeaaGreatDoorZ24
namespace Go.Proofs.YtdpflafjfkooeaaGreatDoorG
open Go Go.RowKit Go.Proofs
set_option linter.unusedSimpArgs false
set_option linter.unusedVariables false
def noSt : St := ⟨[], [], []⟩
def o120 : Opn := ⟨1, 0, 0, [120]⟩
def sN120 : St := ⟨[120], [⟨0, [], [120]⟩], []⟩
def zz : List SV := [.raw (.int .i64 0), .raw (.int .i64 0)]
theorem zz_len : zz.length = 2 := rfl
theorem tv_zz {k : Nat} (h : k < 2) : (List.map TV.v zz).getD k .dead = .v (.raw (.int .i64 0)) := by
  match k, h with
  | 0, _ => rfl
  | 1, _ => rfl
theorem DBC10 : type_of% (And.intro @zz_len (And.intro @List.length_map.{0,0} (And.intro @rn_len (And.intro @List.length_cons.{0} @List.length_nil.{0})))) := ⟨@zz_len, @List.length_map.{0,0}, @rn_len, @List.length_cons.{0}, @List.length_nil.{0}⟩
set_option maxRecDepth 10000 in
set_option maxHeartbeats 4000000 in
theorem first_ok : CallOk Tryz.prog 20 [sl zz] (.p (.one (.v (.raw .nilIface)))) [] true := by
  refine fn_ok' T_ok (orc_ok _) mixed Tryz.func20 rfl (by kernel_rfl) (lv [[0], [5, 6, 7], [5, 6, 7, 8], [4, 5, 6, 7], [4, 5, 6, 7, 12], [2], [5, 6, 7], [2]]) 18 rfl (by simp) rfl (by simp [X.all, PX.all, TV.rawR, SV.isRaw]) ?_
  simp only [argsG, Nat.zero_add, Nat.reduceAdd]
  repeat' first
    | ((first
        | ((with_reducible refine vR_cons (by decide) ?_); generalize hk : KtR _ _ _ _ _ _ _ _ _ _ = k)
        | ((first
        | with_reducible refine vOps_cons' ?_) <;> generalize hk : Kt _ _ _ _ _ _ _ _ _ = k)) <;> (simp only [Tryz.f20, lv, E1, E2, E5, ET, T, mvB, bxB, sxB, rxB, fwd, fwds, inv, mOk, EB, simprocAttr, DBC10, Opn.x, St.x, St.rx, noSt, o120, sN120]; (try simp (disch := omega) only [wrap_in, Int.toNat_natCast, tv_rn, tv_zz]); subst hk))
    | with_reducible first | refine Kt_p ?_ | refine Kt_i (by kernel_rfl) ?_ | refine Kr_f (by kernel_rfl) ?_
    | (with_reducible refine Kr_t ?_; simp only [List.length_append, List.length_cons, List.length_nil, Nat.reduceAdd, Nat.reduceSub, List.drop_succ_cons, List.drop_zero])
    | with_reducible first | refine vR_nil ?_ | refine KtR_i (by kernel_rfl) ?_ | refine KrR_i (by kernel_rfl) ?_ | refine vR_skip (by decide) ?_
    | ((with_reducible refine vB_i ?_ ?_) <;> intro _ <;> (first | (exfalso; omega) | (exact absurd trivial ‹¬True›) | (try dsimp only [])))
    | ((with_reducible refine vOps_nil' ?_); refine Kr_i (by kernel_rfl) ?_; generalize hk : plain _ _ = G; simp only [lv, E3, E2, E5, rawX, deadX, EB, simprocAttr, DBC10, Opn.x, St.x, St.rx, noSt, o120, sN120] at hk; subst hk)
    | with_reducible refine vSeq_i ?_
    | with_reducible first | refine vRegion_i (by kernel_rfl) ?_ | refine Kv_i ?_
    | ((with_reducible apply vStrK_i); (focus (rfl; done)))
    | ((with_reducible refine imp_i ?_); intro _)
    | with_reducible first | refine Ks_n ?_ | refine Ks_r ?_ | refine Ks_e ?_ | refine Kl_e ?_ | refine Kx_n ?_ | refine Kl_r ?_ | refine vRet_i ?_ | refine vSkip_i ?_ | refine vExit_i ?_ | refine vBlock_i ?_ | refine Ks_p ?_ | refine Kl_p ?_ | refine blk_p ?_ | exact Kb_p | refine vGoto_i ?_ | refine vLabel_i ?_ | refine Ks_g ?_ | refine Kl_g ?_ | refine blk_g ?_ | refine jmp_g ?_ | refine jmp_n ?_ | refine jmp_r ?_ | refine nog_n ?_ | refine nog_r ?_ | refine blk_n ?_ | refine blk_r ?_ | refine blk_e ?_ | refine blk_o (by decide) ?_ | refine cp_t ?_ | refine cp_f ?_
    | ((with_reducible apply vCond_x); (focus (simp only [lv, E1, E2, E5, ET, T, mvB, bxB, sxB, rxB, fwd, fwds, inv, mOk, EB, simprocAttr, DBC10, Opn.x, St.x, St.rx, noSt, o120, sN120]; with_reducible first | exact Eq.refl (bo true) | exact Eq.refl (bo false))))
    | ((with_reducible refine And.intro ?_ ?_); (focus (try omega)))
  refine vLoop_s (fun k : Nat => [(.t 5, .t (sl zz)), (.t 6, .t (i64 2)), (.t 7, .t (i64 k))]) (fun k => k ≤ 2) (fun k => 2 - k) 0 (by omega) rfl ?_
  intro k hk
  repeat' first
    | ((first
        | ((with_reducible refine vR_cons (by decide) ?_); generalize hk : KtR _ _ _ _ _ _ _ _ _ _ = k)
        | ((first
        | with_reducible refine vOps_cons' ?_) <;> generalize hk : Kt _ _ _ _ _ _ _ _ _ = k)) <;> (simp only [Tryz.f20, lv, E1, E2, E5, ET, T, mvB, bxB, sxB, rxB, fwd, fwds, inv, mOk, EB, simprocAttr, DBC10, Opn.x, St.x, St.rx, noSt, o120, sN120]; (try simp (disch := omega) only [wrap_in, Int.toNat_natCast, tv_rn, tv_zz]); subst hk))
    | with_reducible first | refine Kt_p ?_ | refine Kt_i (by kernel_rfl) ?_ | refine Kr_f (by kernel_rfl) ?_
    | (with_reducible refine Kr_t ?_; simp only [List.length_append, List.length_cons, List.length_nil, Nat.reduceAdd, Nat.reduceSub, List.drop_succ_cons, List.drop_zero])
    | with_reducible first | refine vR_nil ?_ | refine KtR_i (by kernel_rfl) ?_ | refine KrR_i (by kernel_rfl) ?_ | refine vR_skip (by decide) ?_
    | ((with_reducible refine vB_i ?_ ?_) <;> intro _ <;> (first | (exfalso; omega) | (exact absurd trivial ‹¬True›) | (try dsimp only [])))
    | ((with_reducible refine vOps_nil' ?_); refine Kr_i (by kernel_rfl) ?_; generalize hk : plain _ _ = G; simp only [lv, E3, E2, E5, rawX, deadX, EB, simprocAttr, DBC10, Opn.x, St.x, St.rx, noSt, o120, sN120] at hk; subst hk)
    | with_reducible refine vSeq_i ?_
    | with_reducible first | refine vRegion_i (by kernel_rfl) ?_ | refine Kv_i ?_
    | ((with_reducible apply vStrK_i); (focus (rfl; done)))
    | ((with_reducible refine imp_i ?_); intro _)
    | with_reducible first | refine Ks_n ?_ | refine Ks_r ?_ | refine Ks_e ?_ | refine Kl_e ?_ | refine Kx_n ?_ | refine Kl_r ?_ | refine vRet_i ?_ | refine vSkip_i ?_ | refine vExit_i ?_ | refine vBlock_i ?_ | refine Ks_p ?_ | refine Kl_p ?_ | refine blk_p ?_ | exact Kb_p | refine vGoto_i ?_ | refine vLabel_i ?_ | refine Ks_g ?_ | refine Kl_g ?_ | refine blk_g ?_ | refine jmp_g ?_ | refine jmp_n ?_ | refine jmp_r ?_ | refine nog_n ?_ | refine nog_r ?_ | refine blk_n ?_ | refine blk_r ?_ | refine blk_e ?_ | refine blk_o (by decide) ?_ | refine cp_t ?_ | refine cp_f ?_
    | ((with_reducible apply vCond_x); (focus (simp only [lv, E1, E2, E5, ET, T, mvB, bxB, sxB, rxB, fwd, fwds, inv, mOk, EB, simprocAttr, DBC10, Opn.x, St.x, St.rx, noSt, o120, sN120]; with_reducible first | exact Eq.refl (bo true) | exact Eq.refl (bo false))))
    | ((with_reducible refine And.intro ?_ ?_); (focus (try omega)))
  · exact Kl_n ⟨k + 1, by omega, by omega, by simp only [Int.natCast_add, Int.natCast_one]⟩
  · refine Kf_r ?_
    simp only [Tryz.f20, E4, E3, E2, E5, rawX, deadX, ET, T, EB, simprocAttr, DBC10, Opn.x, St.x, St.rx, noSt, o120, sN120]
theorem okN : noSt.ok := ⟨by simp [noSt], by intro m hm; simp [noSt] at hm, by intro m hm; simp [noSt] at hm, by intro m hm; simp [noSt] at hm, by simp [noSt], by simp [noSt]⟩
theorem r120 : R32s [120] := by intro m hm; simp at hm; subst hm; exact ⟨by omega, by omega⟩
theorem ok120 : sN120.ok := ⟨by simp [sN120], r120, by intro m hm; simp [sN120] at hm; subst hm; exact ⟨by simp, by simp, by intro m hm; simp at hm, r120⟩, by intro m hm; simp [sN120] at hm, by simp [sN120], by simp [sN120]⟩
theorem oo120 : o120.ok := ⟨by simp [o120], r120⟩
theorem app120 : appF noSt o120 = (sN120, 0) := by decide
theorem op120 : opC o120 = 20 ∧ (opF o120).2 = 0 := by decide
theorem stN : stC noSt = 10 ∧ (stF 0 noSt).2 = 0 := by decide
theorem st120 : stC sN120 = 24 ∧ (stF 0 sN120).2 = 0 := by decide
theorem sec442 : secF 4 4 2 = (16, 0) := by decide
set_option maxRecDepth 10000 in
set_option maxHeartbeats 8000000 in
theorem nextN_ok : CallOk Tryz.prog 7 [geo 4 4 2, .p (.agg [.v (.sl 1 []), .v (.sl 3 []), .v (.sl 3 []), .v (.raw (.int .i64 0)), .v (.raw (.int .i64 0))]), o120.x]
    (.tup [.agg [.v (.sl 1 (rn [120])), .v (.sl 3 (chs sN120.undo)), .v (.sl 3 []), .v (.raw (.int .i64 1)), .v (.raw (.int .i64 20))], .one (.v (.raw (.int .i64 0)))]) [] false := by
  have q1 : CallOk Tryz.prog 14 [geo 4 4 2] (.tup [.one (.v (.raw (.int .i64 256))), .one (.v (.raw (.int .i64 216))), .one (.v (.raw (.int .i64 0)))]) [] true := by
    have h := rooms_ok 4 4 2; rw [sec442] at h; exact h
  have q2 : CallOk Tryz.prog 19 [noSt.x, o120.x] (sN120.rx 0) [] false := by
    have h := apply_ok goes_ok noSt o120 okN oo120; rw [app120] at h; exact h
  have q3 : CallOk Tryz.prog 15 [o120.x] (.tup [.one (.v (.raw (.int .i64 20))), .one (.v (.raw (.int .i64 0)))]) [] true := by
    have h := costOp_ok o120 r120 (by simp [o120]); rw [op120.1, op120.2] at h; exact h
  have q4 : CallOk Tryz.prog 16 [sN120.x] (.tup [.one (.v (.raw (.int .i64 24))), .one (.v (.raw (.int .i64 0)))]) [] true := by
    have h := costState_ok sN120 ok120; rw [st120.1, st120.2] at h; exact h
  have q5 := counted_ok 0 (by omega) (by omega)
  have q6 : CallOk Tryz.prog 20 [sl [.raw (.int .i64 0), .raw (.int .i64 0)]] (.p (.one (.v (.raw .nilIface)))) [] true := first_ok
  refine fn_ok' T_ok (orc_ok _) mixed Tryz.func7 rfl (by kernel_rfl) (lv [[3, 4, 5, 6], [4, 5, 6, 8, 9, 10], [4, 5, 6, 8, 9, 10, 24], [6, 7], [4, 5, 6, 8, 9, 10, 11], [4, 5, 6, 8, 9, 10, 11, 35], [6, 7], [4, 6, 8, 9, 10, 11, 12], [4, 6, 8, 9, 11, 12, 13], [4, 6, 8, 9, 11, 12, 13, 50], [6, 7], [4, 6, 8, 9, 10, 11, 12, 14], [4, 6, 8, 10, 11, 12, 65], [4, 6, 8, 10, 11, 12], [4, 6, 8, 10, 11, 12, 15], [4, 6, 10, 11, 12, 15, 76], [4, 6, 10, 11, 12, 15], [4, 6, 11, 12, 16], [4, 6, 11, 12, 16, 82], [6, 7], [6, 7]]) 95 rfl (by simp) rfl (by simp) ?_
  simp only [argsG, Nat.zero_add, Nat.reduceAdd, Opn.x, St.x, St.rx, noSt, o120, sN120] at *
  repeat' first
    | ((first
        | ((with_reducible refine vR_cons (by decide) ?_); generalize hk : KtR _ _ _ _ _ _ _ _ _ _ = k)
        | ((first
        | with_reducible refine vOps_cons' ?_
        | ((with_reducible apply orc_i); (focus (exact q1; done)))
        | ((with_reducible apply orc_i); (focus (exact q2; done)))
        | ((with_reducible apply orc_i); (focus (exact q3; done)))
        | ((with_reducible apply orc_i); (focus (exact q4; done)))
        | ((with_reducible apply orc_i); (focus (exact q5; done)))
        | ((with_reducible apply orc_i); (focus (exact q6; done)))) <;> generalize hk : Kt _ _ _ _ _ _ _ _ _ = k)) <;> (simp only [Tryz.f7, lv, E1, E2, E5, ET, T, mvB, bxB, sxB, rxB, fwd, fwds, inv, mOk, EB, simprocAttr, DBC10, Opn.x, St.x, St.rx, noSt, o120, sN120]; (try simp (disch := omega) only [wrap_in, Int.toNat_natCast, tv_rn, tv_zz]); subst hk))
    | with_reducible first | refine Kt_p ?_ | refine Kt_i (by kernel_rfl) ?_ | refine Kr_f (by kernel_rfl) ?_
    | (with_reducible refine Kr_t ?_; simp only [List.length_append, List.length_cons, List.length_nil, Nat.reduceAdd, Nat.reduceSub, List.drop_succ_cons, List.drop_zero])
    | with_reducible first | refine vR_nil ?_ | refine KtR_i (by kernel_rfl) ?_ | refine KrR_i (by kernel_rfl) ?_ | refine vR_skip (by decide) ?_
    | ((with_reducible refine vB_i ?_ ?_) <;> intro _ <;> (first | (exfalso; omega) | (exact absurd trivial ‹¬True›) | (try dsimp only [])))
    | ((with_reducible refine vOps_nil' ?_); refine Kr_i (by kernel_rfl) ?_; generalize hk : plain _ _ = G; simp only [lv, E3, E2, E5, rawX, deadX, EB, simprocAttr, DBC10, Opn.x, St.x, St.rx, noSt, o120, sN120] at hk; subst hk)
    | with_reducible refine vSeq_i ?_
    | with_reducible first | refine vRegion_i (by kernel_rfl) ?_ | refine Kv_i ?_
    | ((with_reducible apply vStrK_i); (focus (rfl; done)))
    | ((with_reducible refine imp_i ?_); intro _)
    | with_reducible first | refine Ks_n ?_ | refine Ks_r ?_ | refine Ks_e ?_ | refine Kl_e ?_ | refine Kx_n ?_ | refine Kl_r ?_ | refine vRet_i ?_ | refine vSkip_i ?_ | refine vExit_i ?_ | refine vBlock_i ?_ | refine Ks_p ?_ | refine Kl_p ?_ | refine blk_p ?_ | exact Kb_p | refine vGoto_i ?_ | refine vLabel_i ?_ | refine Ks_g ?_ | refine Kl_g ?_ | refine blk_g ?_ | refine jmp_g ?_ | refine jmp_n ?_ | refine jmp_r ?_ | refine nog_n ?_ | refine nog_r ?_ | refine blk_n ?_ | refine blk_r ?_ | refine blk_e ?_ | refine blk_o (by decide) ?_ | refine cp_t ?_ | refine cp_f ?_
    | ((with_reducible apply vCond_x); (focus (simp only [lv, E1, E2, E5, ET, T, mvB, bxB, sxB, rxB, fwd, fwds, inv, mOk, EB, simprocAttr, DBC10, Opn.x, St.x, St.rx, noSt, o120, sN120]; with_reducible first | exact Eq.refl (bo true) | exact Eq.refl (bo false))))
    | ((with_reducible refine And.intro ?_ ?_); (focus (try omega)))
  refine Kf_r ?_
  simp only [Tryz.f7, E4, E3, E2, E5, rawX, deadX, ET, T, EB, simprocAttr, DBC10, Opn.x, St.x, St.rx, noSt, o120, sN120]
  rfl
def x120 : X := .p (.agg [.v (.raw (.int .i64 1)), .v (.raw (.int .i64 0)), .v (.raw (.int .i64 0)), .v (.sl 1 [.raw (.int .i32 120)])])
set_option maxRecDepth 10000 in
set_option maxHeartbeats 16000000 in
theorem works24_ok : CallOk Tryz.prog 5 [] (bo true) [] true := by
  have q0 : CallOk Tryz.prog 13 [geo 4 4 2] (.tup [.one (.v (.raw (.int .i64 16))), .one (.v (.raw (.int .i64 0)))]) [] true := by
    have h := sectors_ok 4 4 2; rw [sec442] at h; exact h
  have q1 : CallOk Tryz.prog 14 [geo 4 4 2] (.tup [.one (.v (.raw (.int .i64 256))), .one (.v (.raw (.int .i64 216))), .one (.v (.raw (.int .i64 0)))]) [] true := by
    have h := rooms_ok 4 4 2; rw [sec442] at h; exact h
  have q3 : CallOk Tryz.prog 15 [x120] (.tup [.one (.v (.raw (.int .i64 20))), .one (.v (.raw (.int .i64 0)))]) [] true := by
    have h := costOp_ok o120 r120 (by simp [o120]); rw [op120.1, op120.2] at h; exact h
  have q4 : CallOk Tryz.prog 16 [.p (.agg [.v (.sl 1 []), .v (.sl 3 []), .v (.sl 3 [])])] (.tup [.one (.v (.raw (.int .i64 10))), .one (.v (.raw (.int .i64 0)))]) [] true := by
    have h := costState_ok noSt okN; rw [stN.1, stN.2] at h; exact h
  have q5 : CallOk Tryz.prog 7 [geo 4 4 2, .p (.agg [.v (.sl 1 []), .v (.sl 3 []), .v (.sl 3 []), .v (.raw (.int .i64 0)), .v (.raw (.int .i64 0))]), x120]
    (.tup [.agg [.v (.sl 1 (rn [120])), .v (.sl 3 (chs sN120.undo)), .v (.sl 3 []), .v (.raw (.int .i64 1)), .v (.raw (.int .i64 20))], .one (.v (.raw (.int .i64 0)))]) [] false := nextN_ok
  have q6 : CallOk Tryz.prog 17 [sl (rn [120]), sl [.raw (.int .i32 120)]] (bo true) [] true := same_ok [120] [120] (by simp) (by simp)
  refine fn_ok' T_ok (orc_ok _) mixed Tryz.func5 rfl (by kernel_rfl) (lv [[], [1], [1, 2, 3], [1, 2, 3, 4, 5, 6], [1, 2, 3, 4, 5, 6, 7, 8], [1, 2, 3, 4, 5, 6, 7, 8, 9, 10], [2, 3, 4, 5, 6, 7, 8, 9, 10, 11, 12], [0]]) 99 rfl (by simp) rfl (by simp [X.all, PX.all, TV.rawR, SV.isRaw]) ?_
  simp only [argsG, Nat.zero_add, Nat.reduceAdd, x120] at *
  repeat' first
    | ((first
        | ((with_reducible refine vR_cons (by decide) ?_); generalize hk : KtR _ _ _ _ _ _ _ _ _ _ = k)
        | ((first
        | with_reducible refine vOps_cons' ?_
        | ((with_reducible apply orc_i); (focus (exact q0; done)))
        | ((with_reducible apply orc_i); (focus (exact q1; done)))
        | ((with_reducible apply orc_i); (focus (exact q3; done)))
        | ((with_reducible apply orc_i); (focus (exact q4; done)))
        | ((with_reducible apply orc_i); (focus (exact q5; done)))
        | ((with_reducible apply orc_b); (focus (exact q6; done)); (all_goals (intro hb; (try simp only [decide_eq_true_eq, decide_eq_false_iff_not, Bool.not_eq_true', Bool.not_eq_false', Bool.and_eq_true, Decidable.not_not] at hb))))) <;> generalize hk : Kt _ _ _ _ _ _ _ _ _ = k)) <;> (simp only [Tryz.f5, lv, E1, E2, E5, ET, T, mvB, bxB, sxB, rxB, fwd, fwds, inv, mOk, EB, simprocAttr, DBC10, Opn.x, St.x, St.rx, noSt, o120, sN120]; (try simp (disch := omega) only [wrap_in, Int.toNat_natCast, tv_rn, tv_zz]); subst hk))
    | with_reducible first | refine Kt_p ?_ | refine Kt_i (by kernel_rfl) ?_ | refine Kr_f (by kernel_rfl) ?_
    | (with_reducible refine Kr_t ?_; simp only [List.length_append, List.length_cons, List.length_nil, Nat.reduceAdd, Nat.reduceSub, List.drop_succ_cons, List.drop_zero])
    | with_reducible first | refine vR_nil ?_ | refine KtR_i (by kernel_rfl) ?_ | refine KrR_i (by kernel_rfl) ?_ | refine vR_skip (by decide) ?_
    | ((with_reducible refine vB_i ?_ ?_) <;> intro _ <;> (first | (exfalso; omega) | (exact absurd trivial ‹¬True›) | (try dsimp only [])))
    | ((with_reducible refine vOps_nil' ?_); refine Kr_i (by kernel_rfl) ?_; generalize hk : plain _ _ = G; simp only [lv, E3, E2, E5, rawX, deadX, EB, simprocAttr, DBC10, Opn.x, St.x, St.rx, noSt, o120, sN120] at hk; subst hk)
    | with_reducible refine vSeq_i ?_
    | with_reducible first | refine vRegion_i (by kernel_rfl) ?_ | refine Kv_i ?_
    | ((with_reducible apply vStrK_i); (focus (rfl; done)))
    | ((with_reducible refine imp_i ?_); intro _)
    | with_reducible first | refine Ks_n ?_ | refine Ks_r ?_ | refine Ks_e ?_ | refine Kl_e ?_ | refine Kx_n ?_ | refine Kl_r ?_ | refine vRet_i ?_ | refine vSkip_i ?_ | refine vExit_i ?_ | refine vBlock_i ?_ | refine Ks_p ?_ | refine Kl_p ?_ | refine blk_p ?_ | exact Kb_p | refine vGoto_i ?_ | refine vLabel_i ?_ | refine Ks_g ?_ | refine Kl_g ?_ | refine blk_g ?_ | refine jmp_g ?_ | refine jmp_n ?_ | refine jmp_r ?_ | refine nog_n ?_ | refine nog_r ?_ | refine blk_n ?_ | refine blk_r ?_ | refine blk_e ?_ | refine blk_o (by decide) ?_ | refine cp_t ?_ | refine cp_f ?_
    | ((with_reducible apply vCond_x); (focus (simp only [lv, E1, E2, E5, ET, T, mvB, bxB, sxB, rxB, fwd, fwds, inv, mOk, EB, simprocAttr, DBC10, Opn.x, St.x, St.rx, noSt, o120, sN120]; with_reducible first | exact Eq.refl (bo true) | exact Eq.refl (bo false))))
    | ((with_reducible refine And.intro ?_ ?_); (focus (try omega)))
  · refine Kf_r ?_
    simp only [Tryz.f5, E4, E3, E2, E5, rawX, deadX, ET, T, EB, simprocAttr, DBC10, Opn.x, St.x, St.rx, noSt, o120, sN120]
  · rename_i hb
    exact absurd hb (by decide)
end Go.Proofs.YtdpflafjfkooeaaGreatDoorG
/- A22: what Apply leaves may be. -/
namespace Go.Proofs.YtdpflafjfkooeaaGreatDoorG
open Go Go.RowKit Go.Proofs
set_option linter.unusedSimpArgs false
set_option linter.unusedVariables false
theorem app_some {s : St} {o : Opn} (h : (appF s o).2 = 0) : ∃ c, effF s o = (c, 0) := by
  have h0 := app_zero h
  exact ⟨(effF s o).1, by rw [← h0]⟩
theorem right_app {s : St} {o : Opn} (hs : s.ok) (ho : o.ok) (h : (appF s o).2 = 0) : rightF (appF s o).1 = 0 := by
  obtain ⟨c, hI⟩ := app_some h
  obtain ⟨g1, g2, g3⟩ := eff_good hs ho hI
  obtain ⟨z1, z2, z3, z4, z5⟩ := right_zero (eff_zero hI)
  obtain ⟨u1, u2⟩ := undone g1
  unfold appF
  rw [hI, if_neg (fun h => h rfl)]
  split
  · rename_i hk
    have hl := eff_undo hI hk
    have hv := eff_undo_val hI hk
    rw [show ((s.undo.length : Int) - 1).toNat = s.undo.length - 1 by omega] at hv
    refine right_of g3 (by simp; omega) (scal_done g1 z3) ?_ ?_
    · have := walk_head (l := s.undo.map Ch.inv) (by simpa using z4) (by simpa using hl)
      rw [List.length_map, getD_inv, hv, inv_inv] at this
      rw [List.map_take, List.length_take, Nat.min_eq_left (by omega), walk_take (Nat.le_refl _)]
      exact this.2.2
    · show walkN (s.redo ++ [c.inv]) (s.redo ++ [c.inv]).length (c.done s.text) = true
      rw [List.length_append, List.length_cons, List.length_nil, walk_snoc, u2, decide_eq_true ⟨u1, z1⟩, z5]; rfl
  · split
    · rename_i hk3 hk
      have hl := eff_redo hI hk
      have hv := eff_redo_val hI hk
      rw [show ((s.redo.length : Int) - 1).toNat = s.redo.length - 1 by omega] at hv
      refine right_of g3 (by simp; omega) (scal_done g1 z3) ?_ ?_
      · show walkN ((s.undo ++ [c]).map Ch.inv) (s.undo ++ [c]).length (c.done s.text) = true
        rw [List.map_append, List.length_append, List.length_cons, List.length_nil]
        have := walk_snoc (l := s.undo.map Ch.inv) (x := c.inv) (t := c.done s.text)
        rw [List.length_map] at this
        show walkN (s.undo.map Ch.inv ++ [c.inv]) (s.undo.length + 1) _ = true
        rw [this, u2, decide_eq_true ⟨u1, z1⟩, z4]; rfl
      · have := walk_head z5 hl
        rw [hv] at this
        show walkN (s.redo.take (s.redo.length - 1)) (s.redo.take (s.redo.length - 1)).length (c.done s.text) = true
        rw [List.length_take, Nat.min_eq_left (by omega), walk_take (Nat.le_refl _)]
        exact this.2.2
    · rename_i hk3 hk4
      have hw : walkN ((s.undo ++ [c]).map Ch.inv) (s.undo.length + 1) (c.done s.text) = true := by
        have := walk_snoc (l := s.undo.map Ch.inv) (x := c.inv) (t := c.done s.text)
        rw [List.length_map] at this
        rw [List.map_append]
        show walkN (s.undo.map Ch.inv ++ [c.inv]) (s.undo.length + 1) _ = true
        rw [this, u2, decide_eq_true ⟨u1, z1⟩, z4]; rfl
      refine right_of g3 ?_ (scal_done g1 z3) ?_ rfl
      · show (if _ then _ else _ : List Ch).length + 0 ≤ 16
        split <;> simp <;> omega
      · show walkN ((if s.undo.length + 1 > 16 then (s.undo ++ [c]).drop 1 else s.undo ++ [c]).map Ch.inv) (if s.undo.length + 1 > 16 then (s.undo ++ [c]).drop 1 else s.undo ++ [c]).length (c.done s.text) = true
        split
        · rw [List.map_drop, List.length_drop, List.length_append, List.length_cons, List.length_nil]
          exact walk_drop hw
        · rw [List.length_append, List.length_cons, List.length_nil]; exact hw
end Go.Proofs.YtdpflafjfkooeaaGreatDoorG
namespace Go.Proofs.YtdpflafjfkooeaaGreatDoorG
open Go Go.RowKit Go.Proofs
set_option linter.unusedSimpArgs false
set_option linter.unusedVariables false
/-- A book. -/
structure Book where
  s : St
  n : Int
  u : Int
def Book.x (k : Book) : X := .p (.agg [.v (.sl 1 (rn k.s.text)), .v (.sl 3 (chs k.s.undo)), .v (.sl 3 (chs k.s.redo)), .v (.raw (.int .i64 k.n)), .v (.raw (.int .i64 k.u))])
def bkE (p : Book × Int) : X := .tup [.agg [.v (.sl 1 (rn p.1.s.text)), .v (.sl 3 (chs p.1.s.undo)), .v (.sl 3 (chs p.1.s.redo)), .v (.raw (.int .i64 p.1.n)), .v (.raw (.int .i64 p.1.u))], .one (.v (.raw (.int .i64 p.2)))]
def bk0 : Book := ⟨noSt, 0, 0⟩
def nextF (a b c : Int) (k : Book) (o : Opn) : Book × Int :=
  if ¬ (secF a b c).2 = 0 then (bk0, (secF a b c).2)
  else if ¬ (appF k.s o).2 = 0 then (bk0, (appF k.s o).2)
  else if ¬ (opF o).2 = 0 then (bk0, (opF o).2)
  else if ¬ cntF k.n = 0 then (bk0, 190)
  else if stC (appF k.s o).1 > 54 * b then (bk0, 240)
  else if k.u < 0 ∨ opC o > 64 * a - k.u then (bk0, 190)
  else (⟨(appF k.s o).1, k.n + 1, k.u + opC o⟩, 0)
theorem two_i (p : Int × Int) : twoX p = .tup [.one (.v (.raw (.int .i64 p.1))), .one (.v (.raw (.int .i64 p.2)))] := rfl
theorem secF_in {a b c : Int} (h : (secF a b c).2 = 0) : 1 ≤ a ∧ a ≤ 4096 ∧ 1 ≤ b ∧ b ≤ 4096 := by
  unfold secF at h
  split at h
  · cases h
  · rename_i q
    have := Decidable.not_not.1 q
    unfold inS at this
    omega
theorem opC_in (o : Opn) : 0 ≤ opC o ∧ opC o ≤ 4110 := by
  have := opF_le o
  unfold opC; split <;> omega
theorem rightSt {k : St} {o : Opn} (hk : k.ok) (ho : o.ok) (h : (appF k o).2 = 0) : (stF 0 (appF k o).1).2 = 0 := by
  rw [st_err]; exact right_app hk ho h
end Go.Proofs.YtdpflafjfkooeaaGreatDoorG
namespace Go.Proofs.YtdpflafjfkooeaaGreatDoorG
open Go Go.RowKit Go.Proofs Go.Proofs.YtdpflafjfkooeaaGreatDoorG.Dec
set_option linter.unusedSimpArgs false
set_option linter.unusedVariables false
theorem stB_le {n : Int} {s : St} (hs : s.ok) : (stB n s).length ≤ 10000000000000 := by
  have l1 := pieceF_le s.text
  have l2 := chsF_le (l := s.undo) fun c hc => (hs.undo c hc).small
  have l3 := chsF_le (l := s.redo) fun c hc => (hs.redo c hc).small
  have := hs.len; have := hs.ulen; have := hs.rlen
  simp only [stB, List.length_append, numB_len]; omega
theorem DBY10 : type_of% (And.intro @List.set_cons_zero.{0} (And.intro @List.set_cons_succ.{0} (And.intro @List.length_map.{0,0} (And.intro @rn_len (And.intro @bs_len (And.intro @two_i (And.intro @List.length_cons.{0} @List.length_nil.{0}))))))) := ⟨@List.set_cons_zero.{0}, @List.set_cons_succ.{0}, @List.length_map.{0,0}, @rn_len, @bs_len, @two_i, @List.length_cons.{0}, @List.length_nil.{0}⟩
set_option maxRecDepth 10000 in
set_option maxHeartbeats 16000000 in
theorem readStateO {n : Int} {s : St} (hn : isI n = true) (hs : s.ok) (h : rightF s = 0) : CallOk Tryz.prog 42 [sl (bs (stB n s))] (.tup [.one (.v (.raw (.int .i64 n))), .agg [.sr 0, .v (.sl 3 (chs s.undo)), .v (.sl 3 (chs s.redo))], .one (.v (.raw (.int .i64 0)))]) [(21, 1, rn s.text)] false := by
  have q := readSt_F hn (right_W hs h)
  have hw := caughtR_ok (hs := [0, 1, 2]) (rst1R (stB n s) ⟨stB_byte n s, by have := stB_le (n := n) hs; omega⟩ n s [] q)
  have hR := right_ok goes_ok s hs
  rw [h] at hR
  refine fn_ok' T_ok (orc_ok _) mixed Tryz.func42 rfl (by kernel_rfl) (lv [[0, 2, 3], [2, 3, 5], [2, 3, 4], [2, 3, 4, 12], [2, 3, 4], [2, 3, 4, 16], [2, 3, 4], [2, 3, 4]]) 21 rfl (by simp) rfl (by simp) ?_
  simp only [argsG, Nat.zero_add, Nat.reduceAdd, St.x] at *
  repeat' first
    | ((first
        | ((with_reducible refine vR_cons (by decide) ?_); generalize hk : KtR _ _ _ _ _ _ _ _ _ _ = k)
        | ((first
        | with_reducible refine vOps_cons' ?_
        | ((with_reducible apply orc_rc); (focus (exact hw; done)))
        | ((with_reducible refine Or.inl ?_); (with_reducible apply orc_rc); (focus (exact hw; done)))
        | ((with_reducible apply orc_i); (focus (exact hR; done)))) <;> generalize hk : Kt _ _ _ _ _ _ _ _ _ = k)) <;> (simp only [Tryz.f42, lv, E1, E2, E5, ET, T, mvB, bxB, sxB, rxB, fwd, fwds, inv, mOk, EB, simprocAttr, DBY10, Opn.x, St.x, St.rx, St.ox, Book.x, stE, St.cs]; (try simp (disch := omega) only [wrap_in, Int.toNat_natCast, tv_rn]); subst hk))
    | with_reducible first | refine Kt_p ?_ | refine Kt_i (by kernel_rfl) ?_ | refine Kr_f (by kernel_rfl) ?_
    | (with_reducible refine Kr_t ?_; simp only [List.length_append, List.length_cons, List.length_nil, Nat.reduceAdd, Nat.reduceSub, List.drop_succ_cons, List.drop_zero])
    | with_reducible first | refine vR_nil ?_ | refine KtR_i (by kernel_rfl) ?_ | refine KrR_i (by kernel_rfl) ?_ | refine vR_skip (by decide) ?_
    | ((with_reducible refine vB_i ?_ ?_) <;> intro _ <;> (first | (exfalso; omega) | (exact absurd trivial ‹¬True›) | (try dsimp only [])))
    | ((with_reducible refine vOps_nil' ?_); refine Kr_i (by kernel_rfl) ?_; generalize hk : plain _ _ = G; simp only [lv, E3, E2, E5, rawX, deadX, EB, simprocAttr, DBY10, Opn.x, St.x, St.rx, St.ox, Book.x, stE, St.cs] at hk; subst hk)
    | with_reducible refine vSeq_i ?_
    | with_reducible first | refine vRegion_i (by kernel_rfl) ?_ | refine Kv_i ?_
    | ((with_reducible apply vStrK_i); (focus (rfl; done)))
    | ((with_reducible refine imp_i ?_); intro _)
    | with_reducible first | refine Ks_n ?_ | refine Ks_r ?_ | refine Ks_e ?_ | refine Kl_e ?_ | refine Kx_n ?_ | refine Kl_r ?_ | refine vRet_i ?_ | refine vSkip_i ?_ | refine vExit_i ?_ | refine vBlock_i ?_ | refine Ks_p ?_ | refine Kl_p ?_ | refine blk_p ?_ | exact Kb_p | refine vGoto_i ?_ | refine vLabel_i ?_ | refine Ks_g ?_ | refine Kl_g ?_ | refine blk_g ?_ | refine jmp_g ?_ | refine jmp_n ?_ | refine jmp_r ?_ | refine nog_n ?_ | refine nog_r ?_ | refine blk_n ?_ | refine blk_r ?_ | refine blk_e ?_ | refine blk_o (by decide) ?_ | refine cp_t ?_ | refine cp_f ?_
    | ((with_reducible apply vCond_x); (focus (simp only [lv, E1, E2, E5, ET, T, mvB, bxB, sxB, rxB, fwd, fwds, inv, mOk, EB, simprocAttr, DBY10, Opn.x, St.x, St.rx, St.ox, Book.x, stE, St.cs]; with_reducible first | exact Eq.refl (bo true) | exact Eq.refl (bo false))))
    | ((with_reducible refine And.intro ?_ ?_); (focus (try omega)))
  all_goals try (exfalso; omega)
  all_goals refine Kf_r ?_
  all_goals simp only [Tryz.f42, E4, E3, E2, E5, rawX, deadX, ET, T, EB, simprocAttr, DBY10, Opn.x, St.x, St.rx, St.ox, Book.x, stE, St.cs]
set_option maxRecDepth 10000 in
set_option maxHeartbeats 8000000 in
theorem copyO_ok (s : St) (hs : s.ok) (h : rightF s = 0) : CallOk Tryz.prog 27 [s.x] (.tup [.agg [.sr 0, .v (.sl 3 (chs s.undo)), .v (.sl 3 (chs s.redo))], .one (.v (.raw (.int .i64 0))), .one (.v (.raw (.int .i64 0)))]) [(21, 1, rn s.text)] false := by
  have q1 := wstate_ok 0 s hs
  rw [stF_B isI_0 h] at q1
  have q2 := readStateO isI_0 hs h
  refine fn_ok' T_ok (orc_ok _) mixed Tryz.func27 rfl (by kernel_rfl) (lv [[1, 2], [2, 5, 6], [2, 5, 6, 15], [2, 3, 4], [2, 6, 7, 8], [2, 3, 4]]) 27 rfl (by simp) rfl (by simp) ?_
  simp only [argsG, Nat.zero_add, Nat.reduceAdd, St.x]
  repeat' first
    | ((first
        | ((with_reducible refine vR_cons (by decide) ?_); generalize hk : KtR _ _ _ _ _ _ _ _ _ _ = k)
        | ((first
        | with_reducible refine vOps_cons' ?_
        | ((with_reducible apply orc_i); (focus (exact q1; done)))
        | ((with_reducible apply orc_i); (focus (exact q2; done)))) <;> generalize hk : Kt _ _ _ _ _ _ _ _ _ = k)) <;> (simp only [Tryz.f27, lv, E1, E2, E5, ET, T, mvB, bxB, sxB, rxB, fwd, fwds, inv, mOk, EB, simprocAttr, DBY10, Opn.x, St.x, St.rx, St.ox, Book.x, stE, St.cs]; (try simp (disch := omega) only [wrap_in, Int.toNat_natCast, tv_rn]); subst hk))
    | with_reducible first | refine Kt_p ?_ | refine Kt_i (by kernel_rfl) ?_ | refine Kr_f (by kernel_rfl) ?_
    | (with_reducible refine Kr_t ?_; simp only [List.length_append, List.length_cons, List.length_nil, Nat.reduceAdd, Nat.reduceSub, List.drop_succ_cons, List.drop_zero])
    | with_reducible first | refine vR_nil ?_ | refine KtR_i (by kernel_rfl) ?_ | refine KrR_i (by kernel_rfl) ?_ | refine vR_skip (by decide) ?_
    | ((with_reducible refine vB_i ?_ ?_) <;> intro _ <;> (first | (exfalso; omega) | (exact absurd trivial ‹¬True›) | (try dsimp only [])))
    | ((with_reducible refine vOps_nil' ?_); refine Kr_i (by kernel_rfl) ?_; generalize hk : plain _ _ = G; simp only [lv, E3, E2, E5, rawX, deadX, EB, simprocAttr, DBY10, Opn.x, St.x, St.rx, St.ox, Book.x, stE, St.cs] at hk; subst hk)
    | with_reducible refine vSeq_i ?_
    | with_reducible first | refine vRegion_i (by kernel_rfl) ?_ | refine Kv_i ?_
    | ((with_reducible apply vStrK_i); (focus (rfl; done)))
    | ((with_reducible refine imp_i ?_); intro _)
    | with_reducible first | refine Ks_n ?_ | refine Ks_r ?_ | refine Ks_e ?_ | refine Kl_e ?_ | refine Kx_n ?_ | refine Kl_r ?_ | refine vRet_i ?_ | refine vSkip_i ?_ | refine vExit_i ?_ | refine vBlock_i ?_ | refine Ks_p ?_ | refine Kl_p ?_ | refine blk_p ?_ | exact Kb_p | refine vGoto_i ?_ | refine vLabel_i ?_ | refine Ks_g ?_ | refine Kl_g ?_ | refine blk_g ?_ | refine jmp_g ?_ | refine jmp_n ?_ | refine jmp_r ?_ | refine nog_n ?_ | refine nog_r ?_ | refine blk_n ?_ | refine blk_r ?_ | refine blk_e ?_ | refine blk_o (by decide) ?_ | refine cp_t ?_ | refine cp_f ?_
    | ((with_reducible apply vCond_x); (focus (simp only [lv, E1, E2, E5, ET, T, mvB, bxB, sxB, rxB, fwd, fwds, inv, mOk, EB, simprocAttr, DBY10, Opn.x, St.x, St.rx, St.ox, Book.x, stE, St.cs]; with_reducible first | exact Eq.refl (bo true) | exact Eq.refl (bo false))))
    | ((with_reducible refine And.intro ?_ ?_); (focus (try omega)))
  all_goals try (exfalso; omega)
  all_goals refine Kf_r ?_
  all_goals simp only [Tryz.f27, E4, E3, E2, E5, rawX, deadX, ET, T, EB, simprocAttr, DBY10, Opn.x, St.x, St.rx, St.ox, Book.x, stE, St.cs]
def bkO (p : Book × Int) : X := .tup [.agg [.sr 0, .v (.sl 3 (chs p.1.s.undo)), .v (.sl 3 (chs p.1.s.redo)), .v (.raw (.int .i64 p.1.n)), .v (.raw (.int .i64 p.1.u))], .one (.v (.raw (.int .i64 p.2)))]
def bkR (p : Book × Int) : Rows := [(21, 1, rn p.1.s.text)]
def savedF (a b c : Int) (k : Book) : Book × Int :=
  if ¬ (secF a b c).2 = 0 then (bk0, (secF a b c).2)
  else if ¬ rightF k.s = 0 then (bk0, rightF k.s)
  else if stC k.s > 54 * b then (bk0, 240)
  else (⟨k.s, k.n, 0⟩, 0)
set_option maxRecDepth 10000 in
set_option maxHeartbeats 8000000 in
theorem savedO_ok (a b c : Int) (k : Book) (hk : k.s.ok) : CallOk Tryz.prog 9 [geo a b c, k.x] (bkO (savedF a b c k)) (bkR (savedF a b c k)) false := by
  have q1 := rooms_ok a b c
  have q2 := costState_ok k.s hk
  rw [st_err] at q2
  refine fn_ok' T_ok (orc_ok _) mixed Tryz.func9 rfl (by kernel_rfl) (lv [[2, 3, 4], [3, 4, 7, 8], [3, 4, 7, 8, 19], [4, 5, 1500401, 1500402], [3, 4, 7, 8, 9], [3, 4, 7, 8, 9, 28], [4, 5, 1500401, 1500402], [3, 4, 33], [4, 5, 1500401, 1500402], [3, 4, 8, 10], [4, 5]]) 50 rfl (by simp) rfl (by simp) ?_
  by_cases h1 : (secF a b c).2 = 0
  rotate_left
  · rw [if_neg h1, if_neg h1] at q1
    rw [show savedF a b c k = (bk0, (secF a b c).2) from if_pos h1]
    simp only [argsG, Nat.zero_add, Nat.reduceAdd, Book.x]
    repeat' first
      | ((first
          | ((with_reducible refine vR_cons (by decide) ?_); generalize hk : KtR _ _ _ _ _ _ _ _ _ _ = k)
          | ((first
          | with_reducible refine vOps_cons' ?_
          | ((with_reducible apply orc_i); (focus (exact q1; done)))) <;> generalize hk : Kt _ _ _ _ _ _ _ _ _ = k)) <;> (simp only [Tryz.f9, lv, E1, E2, E5, ET, T, mvB, bxB, sxB, rxB, fwd, fwds, inv, mOk, EB, simprocAttr, DBY10, Opn.x, St.x, St.rx, St.ox, Book.x, stE, St.cs]; (try simp (disch := omega) only [wrap_in, Int.toNat_natCast, tv_rn]); subst hk))
      | with_reducible first | refine Kt_p ?_ | refine Kt_i (by kernel_rfl) ?_ | refine Kr_f (by kernel_rfl) ?_
      | (with_reducible refine Kr_t ?_; simp only [List.length_append, List.length_cons, List.length_nil, Nat.reduceAdd, Nat.reduceSub, List.drop_succ_cons, List.drop_zero])
      | with_reducible first | refine vR_nil ?_ | refine KtR_i (by kernel_rfl) ?_ | refine KrR_i (by kernel_rfl) ?_ | refine vR_skip (by decide) ?_
      | ((with_reducible refine vB_i ?_ ?_) <;> intro _ <;> (first | (exfalso; omega) | (exact absurd trivial ‹¬True›) | (try dsimp only [])))
      | ((with_reducible refine vOps_nil' ?_); refine Kr_i (by kernel_rfl) ?_; generalize hk : plain _ _ = G; simp only [lv, E3, E2, E5, rawX, deadX, EB, simprocAttr, DBY10, Opn.x, St.x, St.rx, St.ox, Book.x, stE, St.cs] at hk; subst hk)
      | with_reducible refine vSeq_i ?_
      | with_reducible first | refine vRegion_i (by kernel_rfl) ?_ | refine Kv_i ?_
      | ((with_reducible apply vStrK_i); (focus (rfl; done)))
      | ((with_reducible refine imp_i ?_); intro _)
      | with_reducible first | refine Ks_n ?_ | refine Ks_r ?_ | refine Ks_e ?_ | refine Kl_e ?_ | refine Kx_n ?_ | refine Kl_r ?_ | refine vRet_i ?_ | refine vSkip_i ?_ | refine vExit_i ?_ | refine vBlock_i ?_ | refine Ks_p ?_ | refine Kl_p ?_ | refine blk_p ?_ | exact Kb_p | refine vGoto_i ?_ | refine vLabel_i ?_ | refine Ks_g ?_ | refine Kl_g ?_ | refine blk_g ?_ | refine jmp_g ?_ | refine jmp_n ?_ | refine jmp_r ?_ | refine nog_n ?_ | refine nog_r ?_ | refine blk_n ?_ | refine blk_r ?_ | refine blk_e ?_ | refine blk_o (by decide) ?_ | refine cp_t ?_ | refine cp_f ?_
      | ((with_reducible apply vCond_x); (focus (simp only [lv, E1, E2, E5, ET, T, mvB, bxB, sxB, rxB, fwd, fwds, inv, mOk, EB, simprocAttr, DBY10, Opn.x, St.x, St.rx, St.ox, Book.x, stE, St.cs]; with_reducible first | exact Eq.refl (bo true) | exact Eq.refl (bo false))))
      | ((with_reducible refine And.intro ?_ ?_); (focus (try omega)))
    all_goals try (exfalso; omega)
    all_goals refine Kf_r ?_
    all_goals simp only [Tryz.f9, E4, E3, E2, E5, rawX, deadX, ET, T, EB, simprocAttr, DBY10, Opn.x, St.x, St.rx, St.ox, Book.x, stE, St.cs, bkO, bkR, bk0, noSt]
    all_goals first | exact ⟨rfl, rfl⟩ | rfl
  rw [if_pos h1, if_pos h1, h1] at q1
  by_cases h2 : rightF k.s = 0
  rotate_left
  · rw [show savedF a b c k = (bk0, rightF k.s) by unfold savedF; rw [if_neg (fun q => q h1), if_pos h2]]
    simp only [argsG, Nat.zero_add, Nat.reduceAdd, Book.x]
    repeat' first
      | ((first
          | ((with_reducible refine vR_cons (by decide) ?_); generalize hk : KtR _ _ _ _ _ _ _ _ _ _ = k)
          | ((first
          | with_reducible refine vOps_cons' ?_
          | ((with_reducible apply orc_i); (focus (exact q1; done)))
          | ((with_reducible apply orc_i); (focus (exact q2; done)))) <;> generalize hk : Kt _ _ _ _ _ _ _ _ _ = k)) <;> (simp only [Tryz.f9, lv, E1, E2, E5, ET, T, mvB, bxB, sxB, rxB, fwd, fwds, inv, mOk, EB, simprocAttr, DBY10, Opn.x, St.x, St.rx, St.ox, Book.x, stE, St.cs]; (try simp (disch := omega) only [wrap_in, Int.toNat_natCast, tv_rn]); subst hk))
      | with_reducible first | refine Kt_p ?_ | refine Kt_i (by kernel_rfl) ?_ | refine Kr_f (by kernel_rfl) ?_
      | (with_reducible refine Kr_t ?_; simp only [List.length_append, List.length_cons, List.length_nil, Nat.reduceAdd, Nat.reduceSub, List.drop_succ_cons, List.drop_zero])
      | with_reducible first | refine vR_nil ?_ | refine KtR_i (by kernel_rfl) ?_ | refine KrR_i (by kernel_rfl) ?_ | refine vR_skip (by decide) ?_
      | ((with_reducible refine vB_i ?_ ?_) <;> intro _ <;> (first | (exfalso; omega) | (exact absurd trivial ‹¬True›) | (try dsimp only [])))
      | ((with_reducible refine vOps_nil' ?_); refine Kr_i (by kernel_rfl) ?_; generalize hk : plain _ _ = G; simp only [lv, E3, E2, E5, rawX, deadX, EB, simprocAttr, DBY10, Opn.x, St.x, St.rx, St.ox, Book.x, stE, St.cs] at hk; subst hk)
      | with_reducible refine vSeq_i ?_
      | with_reducible first | refine vRegion_i (by kernel_rfl) ?_ | refine Kv_i ?_
      | ((with_reducible apply vStrK_i); (focus (rfl; done)))
      | ((with_reducible refine imp_i ?_); intro _)
      | with_reducible first | refine Ks_n ?_ | refine Ks_r ?_ | refine Ks_e ?_ | refine Kl_e ?_ | refine Kx_n ?_ | refine Kl_r ?_ | refine vRet_i ?_ | refine vSkip_i ?_ | refine vExit_i ?_ | refine vBlock_i ?_ | refine Ks_p ?_ | refine Kl_p ?_ | refine blk_p ?_ | exact Kb_p | refine vGoto_i ?_ | refine vLabel_i ?_ | refine Ks_g ?_ | refine Kl_g ?_ | refine blk_g ?_ | refine jmp_g ?_ | refine jmp_n ?_ | refine jmp_r ?_ | refine nog_n ?_ | refine nog_r ?_ | refine blk_n ?_ | refine blk_r ?_ | refine blk_e ?_ | refine blk_o (by decide) ?_ | refine cp_t ?_ | refine cp_f ?_
      | ((with_reducible apply vCond_x); (focus (simp only [lv, E1, E2, E5, ET, T, mvB, bxB, sxB, rxB, fwd, fwds, inv, mOk, EB, simprocAttr, DBY10, Opn.x, St.x, St.rx, St.ox, Book.x, stE, St.cs]; with_reducible first | exact Eq.refl (bo true) | exact Eq.refl (bo false))))
      | ((with_reducible refine And.intro ?_ ?_); (focus (try omega)))
    all_goals try (exfalso; omega)
    all_goals refine Kf_r ?_
    all_goals simp only [Tryz.f9, E4, E3, E2, E5, rawX, deadX, ET, T, EB, simprocAttr, DBY10, Opn.x, St.x, St.rx, St.ox, Book.x, stE, St.cs, bkO, bkR, bk0, noSt]
    all_goals first | exact ⟨rfl, rfl⟩ | rfl
  rw [h2] at q2
  have q3 := copyO_ok k.s hk h2
  by_cases h3 : stC k.s > 54 * b
  · rw [show savedF a b c k = (bk0, 240) by unfold savedF; rw [if_neg (fun q => q h1), if_neg (fun q => q h2), if_pos h3]]
    simp only [argsG, Nat.zero_add, Nat.reduceAdd, Book.x]
    repeat' first
      | ((first
          | ((with_reducible refine vR_cons (by decide) ?_); generalize hk : KtR _ _ _ _ _ _ _ _ _ _ = k)
          | ((first
          | with_reducible refine vOps_cons' ?_
          | ((with_reducible apply orc_i); (focus (exact q1; done)))
          | ((with_reducible apply orc_i); (focus (exact q2; done)))) <;> generalize hk : Kt _ _ _ _ _ _ _ _ _ = k)) <;> (simp only [Tryz.f9, lv, E1, E2, E5, ET, T, mvB, bxB, sxB, rxB, fwd, fwds, inv, mOk, EB, simprocAttr, DBY10, Opn.x, St.x, St.rx, St.ox, Book.x, stE, St.cs]; (try simp (disch := omega) only [wrap_in, Int.toNat_natCast, tv_rn]); subst hk))
      | with_reducible first | refine Kt_p ?_ | refine Kt_i (by kernel_rfl) ?_ | refine Kr_f (by kernel_rfl) ?_
      | (with_reducible refine Kr_t ?_; simp only [List.length_append, List.length_cons, List.length_nil, Nat.reduceAdd, Nat.reduceSub, List.drop_succ_cons, List.drop_zero])
      | with_reducible first | refine vR_nil ?_ | refine KtR_i (by kernel_rfl) ?_ | refine KrR_i (by kernel_rfl) ?_ | refine vR_skip (by decide) ?_
      | ((with_reducible refine vB_i ?_ ?_) <;> intro _ <;> (first | (exfalso; omega) | (exact absurd trivial ‹¬True›) | (try dsimp only [])))
      | ((with_reducible refine vOps_nil' ?_); refine Kr_i (by kernel_rfl) ?_; generalize hk : plain _ _ = G; simp only [lv, E3, E2, E5, rawX, deadX, EB, simprocAttr, DBY10, Opn.x, St.x, St.rx, St.ox, Book.x, stE, St.cs] at hk; subst hk)
      | with_reducible refine vSeq_i ?_
      | with_reducible first | refine vRegion_i (by kernel_rfl) ?_ | refine Kv_i ?_
      | ((with_reducible apply vStrK_i); (focus (rfl; done)))
      | ((with_reducible refine imp_i ?_); intro _)
      | with_reducible first | refine Ks_n ?_ | refine Ks_r ?_ | refine Ks_e ?_ | refine Kl_e ?_ | refine Kx_n ?_ | refine Kl_r ?_ | refine vRet_i ?_ | refine vSkip_i ?_ | refine vExit_i ?_ | refine vBlock_i ?_ | refine Ks_p ?_ | refine Kl_p ?_ | refine blk_p ?_ | exact Kb_p | refine vGoto_i ?_ | refine vLabel_i ?_ | refine Ks_g ?_ | refine Kl_g ?_ | refine blk_g ?_ | refine jmp_g ?_ | refine jmp_n ?_ | refine jmp_r ?_ | refine nog_n ?_ | refine nog_r ?_ | refine blk_n ?_ | refine blk_r ?_ | refine blk_e ?_ | refine blk_o (by decide) ?_ | refine cp_t ?_ | refine cp_f ?_
      | ((with_reducible apply vCond_x); (focus (simp only [lv, E1, E2, E5, ET, T, mvB, bxB, sxB, rxB, fwd, fwds, inv, mOk, EB, simprocAttr, DBY10, Opn.x, St.x, St.rx, St.ox, Book.x, stE, St.cs]; with_reducible first | exact Eq.refl (bo true) | exact Eq.refl (bo false))))
      | ((with_reducible refine And.intro ?_ ?_); (focus (try omega)))
    all_goals try (exfalso; omega)
    all_goals refine Kf_r ?_
    all_goals simp only [Tryz.f9, E4, E3, E2, E5, rawX, deadX, ET, T, EB, simprocAttr, DBY10, Opn.x, St.x, St.rx, St.ox, Book.x, stE, St.cs, bkO, bkR, bk0, noSt]
    all_goals first | exact ⟨rfl, rfl⟩ | rfl
  rw [show savedF a b c k = (⟨k.s, k.n, 0⟩, 0) by unfold savedF; rw [if_neg (fun q => q h1), if_neg (fun q => q h2), if_neg h3]]
  simp only [argsG, Nat.zero_add, Nat.reduceAdd, Book.x]
  repeat' first
    | ((first
        | ((with_reducible refine vR_cons (by decide) ?_); generalize hk : KtR _ _ _ _ _ _ _ _ _ _ = k)
        | ((first
        | with_reducible refine vOps_cons' ?_
        | ((with_reducible apply orc_i); (focus (exact q1; done)))
        | ((with_reducible apply orc_i); (focus (exact q2; done)))
        | ((with_reducible apply orc_i); (focus (exact q3; done)))) <;> generalize hk : Kt _ _ _ _ _ _ _ _ _ = k)) <;> (simp only [Tryz.f9, lv, E1, E2, E5, ET, T, mvB, bxB, sxB, rxB, fwd, fwds, inv, mOk, EB, simprocAttr, DBY10, Opn.x, St.x, St.rx, St.ox, Book.x, stE, St.cs]; (try simp (disch := omega) only [wrap_in, Int.toNat_natCast, tv_rn]); subst hk))
    | with_reducible first | refine Kt_p ?_ | refine Kt_i (by kernel_rfl) ?_ | refine Kr_f (by kernel_rfl) ?_
    | (with_reducible refine Kr_t ?_; simp only [List.length_append, List.length_cons, List.length_nil, Nat.reduceAdd, Nat.reduceSub, List.drop_succ_cons, List.drop_zero])
    | with_reducible first | refine vR_nil ?_ | refine KtR_i (by kernel_rfl) ?_ | refine KrR_i (by kernel_rfl) ?_ | refine vR_skip (by decide) ?_
    | ((with_reducible refine vB_i ?_ ?_) <;> intro _ <;> (first | (exfalso; omega) | (exact absurd trivial ‹¬True›) | (try dsimp only [])))
    | ((with_reducible refine vOps_nil' ?_); refine Kr_i (by kernel_rfl) ?_; generalize hk : plain _ _ = G; simp only [lv, E3, E2, E5, rawX, deadX, EB, simprocAttr, DBY10, Opn.x, St.x, St.rx, St.ox, Book.x, stE, St.cs] at hk; subst hk)
    | with_reducible refine vSeq_i ?_
    | with_reducible first | refine vRegion_i (by kernel_rfl) ?_ | refine Kv_i ?_
    | ((with_reducible apply vStrK_i); (focus (rfl; done)))
    | ((with_reducible refine imp_i ?_); intro _)
    | with_reducible first | refine Ks_n ?_ | refine Ks_r ?_ | refine Ks_e ?_ | refine Kl_e ?_ | refine Kx_n ?_ | refine Kl_r ?_ | refine vRet_i ?_ | refine vSkip_i ?_ | refine vExit_i ?_ | refine vBlock_i ?_ | refine Ks_p ?_ | refine Kl_p ?_ | refine blk_p ?_ | exact Kb_p | refine vGoto_i ?_ | refine vLabel_i ?_ | refine Ks_g ?_ | refine Kl_g ?_ | refine blk_g ?_ | refine jmp_g ?_ | refine jmp_n ?_ | refine jmp_r ?_ | refine nog_n ?_ | refine nog_r ?_ | refine blk_n ?_ | refine blk_r ?_ | refine blk_e ?_ | refine blk_o (by decide) ?_ | refine cp_t ?_ | refine cp_f ?_
    | ((with_reducible apply vCond_x); (focus (simp only [lv, E1, E2, E5, ET, T, mvB, bxB, sxB, rxB, fwd, fwds, inv, mOk, EB, simprocAttr, DBY10, Opn.x, St.x, St.rx, St.ox, Book.x, stE, St.cs]; with_reducible first | exact Eq.refl (bo true) | exact Eq.refl (bo false))))
    | ((with_reducible refine And.intro ?_ ?_); (focus (try omega)))
  all_goals try (exfalso; omega)
  all_goals refine Kf_r ?_
  all_goals simp only [Tryz.f9, E4, E3, E2, E5, rawX, deadX, ET, T, EB, simprocAttr, DBY10, Opn.x, St.x, St.rx, St.ox, Book.x, stE, St.cs, bkO, bkR]
end Go.Proofs.YtdpflafjfkooeaaGreatDoorG
