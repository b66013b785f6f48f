/- YtdpflafjfkooeaaGreatDoorZ23: a part of the proof, joined of its texts. -/
import Derived.Test.YtdpflafjfkooeaaGreatDoorZ22
namespace Go.Proofs.YtdpflafjfkooeaaGreatDoorG
open Go Go.RowKit Go.Proofs
set_option linter.unusedSimpArgs false
set_option linter.unusedVariables false
def inS (n : Int) : Prop := 1 ≤ n ∧ n ≤ 4096
instance (n : Int) : Decidable (inS n) := by unfold inS; infer_instance
/-- What a geometry needs, and why not. -/
def secF (a b c : Int) : Int × Int := if ¬ (inS a ∧ inS b ∧ inS c) then (0, 2) else if a + 2 + 2 * b + c > 4096 then (0, 2) else (a + 2 + 2 * b + c, 0)
abbrev geo (a b c : Int) : X := .p (.agg [.v (.raw (.int .i64 a)), .v (.raw (.int .i64 b)), .v (.raw (.int .i64 c))])
abbrev twoX (p : Int × Int) : X := .tup [.one (.v (.raw (.int .i64 p.1))), .one (.v (.raw (.int .i64 p.2)))]
theorem sec_no {a b c : Int} (h : ¬ (inS a ∧ inS b ∧ inS c)) : secF a b c = (0, 2) := if_pos h
theorem sec_big {a b c : Int} (h : inS a ∧ inS b ∧ inS c) (h2 : a + 2 + 2 * b + c > 4096) : secF a b c = (0, 2) := by unfold secF; rw [if_neg (fun q => q h), if_pos h2]
theorem sec_ok {a b c : Int} (h : inS a ∧ inS b ∧ inS c) (h2 : ¬ a + 2 + 2 * b + c > 4096) : secF a b c = (a + 2 + 2 * b + c, 0) := by unfold secF; rw [if_neg (fun q => q h), if_neg h2]
theorem DBC6 : type_of% (And.intro @List.length_map.{0,0} (And.intro @bs_len (And.intro @rn_len (And.intro @chs_len (And.intro @chs_cnt (And.intro @List.length_append.{0} (And.intro @List.length_cons.{0} (And.intro @List.length_nil.{0} (And.intro @List.getD_cons_zero.{0} @List.getD_cons_succ.{0}))))))))) := ⟨@List.length_map.{0,0}, @bs_len, @rn_len, @chs_len, @chs_cnt, @List.length_append.{0}, @List.length_cons.{0}, @List.length_nil.{0}, @List.getD_cons_zero.{0}, @List.getD_cons_succ.{0}⟩
set_option maxRecDepth 10000 in
set_option maxHeartbeats 4000000 in
theorem sectors1_ok (a b c : Int) : CallOk Tryz.prog 23 [geo a b c] (twoX (secF a b c)) [] true := by
  refine fn_ok' T_ok (orc_ok _) mixed Tryz.func23 rfl (by kernel_rfl) (lv [[1], [1, 32], [2, 3], [4], [4, 44], [2, 3], [2, 3]]) 46 rfl (by simp) rfl (by simp [X.all, PX.all, TV.rawR, SV.isRaw]) ?_
  simp only [argsG, Nat.zero_add, Nat.reduceAdd]
  repeat' first
    | ((first
        | ((with_reducible refine vR_cons (by decide) ?_); generalize hk : KtR _ _ _ _ _ _ _ _ _ _ = k)
        | ((first
        | with_reducible refine vOps_cons' ?_) <;> generalize hk : Kt _ _ _ _ _ _ _ _ _ = k)) <;> (simp only [Tryz.f23, lv, E1, E2, E5, ET, T, mvB, bxB, sxB, rxB, fwd, fwds, inv, mOk, EB, simprocAttr, DBC6, Ch.x, Opn.x, St.x]; (try simp (disch := omega) only [wrap_in, Int.toNat_natCast, tv_rn, tv_ch0, tv_ch1, tv_ch2]); subst hk))
    | with_reducible first | refine Kt_p ?_ | refine Kt_i (by kernel_rfl) ?_ | refine Kr_f (by kernel_rfl) ?_
    | (with_reducible refine Kr_t ?_; simp only [List.length_append, List.length_cons, List.length_nil, Nat.reduceAdd, Nat.reduceSub, List.drop_succ_cons, List.drop_zero])
    | with_reducible first | refine vR_nil ?_ | refine KtR_i (by kernel_rfl) ?_ | refine KrR_i (by kernel_rfl) ?_ | refine vR_skip (by decide) ?_
    | ((with_reducible refine vB_i ?_ ?_) <;> intro _ <;> (first | (exfalso; omega) | (exact absurd trivial ‹¬True›) | (try dsimp only [])))
    | ((with_reducible refine vOps_nil' ?_); refine Kr_i (by kernel_rfl) ?_; generalize hk : plain _ _ = G; simp only [lv, E3, E2, E5, rawX, deadX, EB, simprocAttr, DBC6, Ch.x, Opn.x, St.x] at hk; subst hk)
    | with_reducible refine vSeq_i ?_
    | with_reducible first | refine vRegion_i (by kernel_rfl) ?_ | refine Kv_i ?_
    | ((with_reducible apply vStrK_i); (focus (rfl; done)))
    | ((with_reducible refine imp_i ?_); intro _)
    | with_reducible first | refine Ks_n ?_ | refine Ks_r ?_ | refine Ks_e ?_ | refine Kl_e ?_ | refine Kx_n ?_ | refine Kl_r ?_ | refine vRet_i ?_ | refine vSkip_i ?_ | refine vExit_i ?_ | refine vBlock_i ?_ | refine Ks_p ?_ | refine Kl_p ?_ | refine blk_p ?_ | exact Kb_p | refine vGoto_i ?_ | refine vLabel_i ?_ | refine Ks_g ?_ | refine Kl_g ?_ | refine blk_g ?_ | refine jmp_g ?_ | refine jmp_n ?_ | refine jmp_r ?_ | refine nog_n ?_ | refine nog_r ?_ | refine blk_n ?_ | refine blk_r ?_ | refine blk_e ?_ | refine blk_o (by decide) ?_ | refine cp_t ?_ | refine cp_f ?_
    | ((with_reducible apply vCond_x); (focus (simp only [lv, E1, E2, E5, ET, T, mvB, bxB, sxB, rxB, fwd, fwds, inv, mOk, EB, simprocAttr, DBC6, Ch.x, Opn.x, St.x]; with_reducible first | exact Eq.refl (bo true) | exact Eq.refl (bo false))))
    | ((with_reducible refine And.intro ?_ ?_); (focus (try omega)))
  all_goals refine Kf_r ?_
  all_goals first
    | (rw [sec_no (by unfold inS; omega)]; simp only [Tryz.f23, E4, E3, E2, E5, rawX, deadX, ET, T, EB, simprocAttr, DBC6, Ch.x, Opn.x, St.x]; done)
    | (rw [sec_big (by unfold inS; omega) (by omega)]; simp only [Tryz.f23, E4, E3, E2, E5, rawX, deadX, ET, T, EB, simprocAttr, DBC6, Ch.x, Opn.x, St.x]; done)
    | (rw [sec_ok (by unfold inS; omega) (by omega)]; simp only [Tryz.f23, E4, E3, E2, E5, rawX, deadX, ET, T, EB, simprocAttr, DBC6, Ch.x, Opn.x, St.x]; done)
set_option maxRecDepth 10000 in
set_option maxHeartbeats 4000000 in
theorem sectors_ok (a b c : Int) : CallOk Tryz.prog 13 [geo a b c] (twoX (secF a b c)) [] true := by
  refine fn_ok' T_ok (orc_ok _) mixed Tryz.func13 rfl (by kernel_rfl) (lv [[1], [1, 13, 14], [1, 13, 14, 15], [1, 5, 13, 14], [1, 13, 14, 22], [2, 3], [1, 13, 14], [6], [6, 35], [2, 3], [2, 3]]) 37 rfl (by simp) rfl (by simp [X.all, PX.all, TV.rawR, SV.isRaw]) ?_
  simp only [argsG, Nat.zero_add, Nat.reduceAdd]
  repeat' first
    | ((first
        | ((with_reducible refine vR_cons (by decide) ?_); generalize hk : KtR _ _ _ _ _ _ _ _ _ _ = k)
        | ((first
        | with_reducible refine vOps_cons' ?_) <;> generalize hk : Kt _ _ _ _ _ _ _ _ _ = k)) <;> (simp only [Tryz.f13, lv, E1, E2, E5, ET, T, mvB, bxB, sxB, rxB, fwd, fwds, inv, mOk, EB, simprocAttr, DBC6, Ch.x, Opn.x, St.x]; (try simp (disch := omega) only [wrap_in, Int.toNat_natCast, tv_rn, tv_ch0, tv_ch1, tv_ch2]); subst hk))
    | with_reducible first | refine Kt_p ?_ | refine Kt_i (by kernel_rfl) ?_ | refine Kr_f (by kernel_rfl) ?_
    | (with_reducible refine Kr_t ?_; simp only [List.length_append, List.length_cons, List.length_nil, Nat.reduceAdd, Nat.reduceSub, List.drop_succ_cons, List.drop_zero])
    | with_reducible first | refine vR_nil ?_ | refine KtR_i (by kernel_rfl) ?_ | refine KrR_i (by kernel_rfl) ?_ | refine vR_skip (by decide) ?_
    | ((with_reducible refine vB_i ?_ ?_) <;> intro _ <;> (first | (exfalso; omega) | (exact absurd trivial ‹¬True›) | (try dsimp only [])))
    | ((with_reducible refine vOps_nil' ?_); refine Kr_i (by kernel_rfl) ?_; generalize hk : plain _ _ = G; simp only [lv, E3, E2, E5, rawX, deadX, EB, simprocAttr, DBC6, Ch.x, Opn.x, St.x] at hk; subst hk)
    | with_reducible refine vSeq_i ?_
    | with_reducible first | refine vRegion_i (by kernel_rfl) ?_ | refine Kv_i ?_
    | ((with_reducible apply vStrK_i); (focus (rfl; done)))
    | ((with_reducible refine imp_i ?_); intro _)
    | with_reducible first | refine Ks_n ?_ | refine Ks_r ?_ | refine Ks_e ?_ | refine Kl_e ?_ | refine Kx_n ?_ | refine Kl_r ?_ | refine vRet_i ?_ | refine vSkip_i ?_ | refine vExit_i ?_ | refine vBlock_i ?_ | refine Ks_p ?_ | refine Kl_p ?_ | refine blk_p ?_ | exact Kb_p | refine vGoto_i ?_ | refine vLabel_i ?_ | refine Ks_g ?_ | refine Kl_g ?_ | refine blk_g ?_ | refine jmp_g ?_ | refine jmp_n ?_ | refine jmp_r ?_ | refine nog_n ?_ | refine nog_r ?_ | refine blk_n ?_ | refine blk_r ?_ | refine blk_e ?_ | refine blk_o (by decide) ?_ | refine cp_t ?_ | refine cp_f ?_
    | ((with_reducible apply vCond_x); (focus (simp only [lv, E1, E2, E5, ET, T, mvB, bxB, sxB, rxB, fwd, fwds, inv, mOk, EB, simprocAttr, DBC6, Ch.x, Opn.x, St.x]; with_reducible first | exact Eq.refl (bo true) | exact Eq.refl (bo false))))
    | ((with_reducible refine And.intro ?_ ?_); (focus (try omega)))
  refine vLoop_s (fun k : Nat => [(.t 1, .t (.p (.one (.pr 0 0)))), (.t 13, .t (geo a b c)), (.t 14, .t (i64 k)), (.box 0, .box 23 [.v (.raw (.int .i64 a)), .v (.raw (.int .i64 b)), .v (.raw (.int .i64 c))])]) (fun k => k ≤ 3 ∧ (k = 0 ∨ (1 ≤ a ∧ a ≤ 4096)) ∧ (k ≤ 1 ∨ (1 ≤ b ∧ b ≤ 4096)) ∧ (k ≤ 2 ∨ (1 ≤ c ∧ c ≤ 4096))) (fun k => 3 - k) 0 ⟨by omega, by omega, by omega, by omega⟩ rfl ?_
  rintro k ⟨hk, h1, h2, h3⟩
  rcases (by omega : k = 0 ∨ k = 1 ∨ k = 2 ∨ k = 3) with rfl | rfl | rfl | rfl
  all_goals
    repeat' first
      | ((first
          | ((with_reducible refine vR_cons (by decide) ?_); generalize hk : KtR _ _ _ _ _ _ _ _ _ _ = k)
          | ((first
          | with_reducible refine vOps_cons' ?_) <;> generalize hk : Kt _ _ _ _ _ _ _ _ _ = k)) <;> (simp only [Tryz.f13, lv, E1, E2, E5, ET, T, mvB, bxB, sxB, rxB, fwd, fwds, inv, mOk, EB, simprocAttr, DBC6, Ch.x, Opn.x, St.x]; (try simp (disch := omega) only [wrap_in, Int.toNat_natCast, tv_rn, tv_ch0, tv_ch1, tv_ch2]); subst hk))
      | with_reducible first | refine Kt_p ?_ | refine Kt_i (by kernel_rfl) ?_ | refine Kr_f (by kernel_rfl) ?_
      | (with_reducible refine Kr_t ?_; simp only [List.length_append, List.length_cons, List.length_nil, Nat.reduceAdd, Nat.reduceSub, List.drop_succ_cons, List.drop_zero])
      | with_reducible first | refine vR_nil ?_ | refine KtR_i (by kernel_rfl) ?_ | refine KrR_i (by kernel_rfl) ?_ | refine vR_skip (by decide) ?_
      | ((with_reducible refine vB_i ?_ ?_) <;> intro _ <;> (first | (exfalso; omega) | (exact absurd trivial ‹¬True›) | (try dsimp only [])))
      | ((with_reducible refine vOps_nil' ?_); refine Kr_i (by kernel_rfl) ?_; generalize hk : plain _ _ = G; simp only [lv, E3, E2, E5, rawX, deadX, EB, simprocAttr, DBC6, Ch.x, Opn.x, St.x] at hk; subst hk)
      | with_reducible refine vSeq_i ?_
      | with_reducible first | refine vRegion_i (by kernel_rfl) ?_ | refine Kv_i ?_
      | ((with_reducible apply vStrK_i); (focus (rfl; done)))
      | ((with_reducible refine imp_i ?_); intro _)
      | with_reducible first | refine Ks_n ?_ | refine Ks_r ?_ | refine Ks_e ?_ | refine Kl_e ?_ | refine Kx_n ?_ | refine Kl_r ?_ | refine vRet_i ?_ | refine vSkip_i ?_ | refine vExit_i ?_ | refine vBlock_i ?_ | refine Ks_p ?_ | refine Kl_p ?_ | refine blk_p ?_ | exact Kb_p | refine vGoto_i ?_ | refine vLabel_i ?_ | refine Ks_g ?_ | refine Kl_g ?_ | refine blk_g ?_ | refine jmp_g ?_ | refine jmp_n ?_ | refine jmp_r ?_ | refine nog_n ?_ | refine nog_r ?_ | refine blk_n ?_ | refine blk_r ?_ | refine blk_e ?_ | refine blk_o (by decide) ?_ | refine cp_t ?_ | refine cp_f ?_
      | ((with_reducible apply vCond_x); (focus (simp only [lv, E1, E2, E5, ET, T, mvB, bxB, sxB, rxB, fwd, fwds, inv, mOk, EB, simprocAttr, DBC6, Ch.x, Opn.x, St.x]; with_reducible first | exact Eq.refl (bo true) | exact Eq.refl (bo false))))
      | ((with_reducible refine And.intro ?_ ?_); (focus (try omega)))
  all_goals first
    | (refine Kf_r ?_; rw [sec_no (by unfold inS; omega)]; simp only [Tryz.f13, E4, E3, E2, E5, rawX, deadX, ET, T, EB, simprocAttr, DBC6, Ch.x, Opn.x, St.x]; done)
    | (refine Kf_r ?_; rw [sec_big (by unfold inS; omega) (by omega)]; simp only [Tryz.f13, E4, E3, E2, E5, rawX, deadX, ET, T, EB, simprocAttr, DBC6, Ch.x, Opn.x, St.x]; done)
    | (refine Kf_r ?_; rw [sec_ok (by unfold inS; omega) (by omega), show a + 2 * (b + 1) + c = a + 2 + 2 * b + c by omega]; simp only [Tryz.f13, E4, E3, E2, E5, rawX, deadX, ET, T, EB, simprocAttr, DBC6, Ch.x, Opn.x, St.x]; done)
    | exact Kl_n ⟨1, ⟨by omega, by omega, by omega, by omega⟩, by omega, rfl⟩
    | exact Kl_n ⟨2, ⟨by omega, by omega, by omega, by omega⟩, by omega, rfl⟩
    | exact Kl_n ⟨3, ⟨by omega, by omega, by omega, by omega⟩, by omega, rfl⟩
set_option maxRecDepth 10000 in
set_option maxHeartbeats 4000000 in
theorem refOp_ok (o : Opn) (h : R32s o.text) (hl : o.text.length ≤ 2000000) : CallOk Tryz.prog 40 [o.x] (.tup [.one (.sr 0), .one (.v (.raw (.int .i64 (opF o).2)))]) [(5, 1, bs (opF o).1)] true := by
  have hv := encV_le o.text
  refine fn_ok' T_ok (orc_ok _) mixed Tryz.func40 rfl (by kernel_rfl) (lv [[1], [1, 15], [2, 3], [1, 4], [1, 4, 22], [1, 4, 26], [2, 3], [1, 4], [1, 4, 34], [1, 4, 38], [2, 3], [1, 4], [1, 4, 46], [1, 4, 50], [2, 3], [4, 5, 7], [4, 5, 7, 59], [2, 3], [4], [4, 66], [2, 3], [2, 3]]) 68 rfl (by simp) rfl (fun _ => ⟨rfl, rows_raw⟩) ?_
  simp only [argsG, Nat.zero_add, Nat.reduceAdd, Opn.x]
  repeat' first
    | ((first
        | ((with_reducible refine vR_cons (by decide) ?_); generalize hk : KtR _ _ _ _ _ _ _ _ _ _ = k)
        | ((first
        | with_reducible refine vOps_cons' ?_
        | ((with_reducible apply orc_b); (focus (exact is1_ok _; done)); (all_goals (intro hb; (try simp only [decide_eq_true_eq, decide_eq_false_iff_not, Bool.not_eq_true', Bool.not_eq_false', Bool.and_eq_true, Decidable.not_not] at hb))))
        | ((with_reducible apply orc_i); (focus ((have hq := encode1_ok o.text h hl; simp only [encX, encR_v] at hq; exact hq); done)))
        | ((with_reducible apply orc_i); (focus (exact digits_ok _ (by omega) (by omega); done)))) <;> generalize hk : Kt _ _ _ _ _ _ _ _ _ = k)) <;> (simp only [Tryz.f40, lv, E1, E2, E5, ET, T, mvB, bxB, sxB, rxB, fwd, fwds, inv, mOk, EB, simprocAttr, DBC6, Ch.x, Opn.x, St.x]; (try simp (disch := omega) only [wrap_in, Int.toNat_natCast, tv_rn, tv_ch0, tv_ch1, tv_ch2]); subst hk))
    | with_reducible first | refine Kt_p ?_ | refine Kt_i (by kernel_rfl) ?_ | refine Kr_f (by kernel_rfl) ?_
    | (with_reducible refine Kr_t ?_; simp only [List.length_append, List.length_cons, List.length_nil, Nat.reduceAdd, Nat.reduceSub, List.drop_succ_cons, List.drop_zero])
    | with_reducible first | refine vR_nil ?_ | refine KtR_i (by kernel_rfl) ?_ | refine KrR_i (by kernel_rfl) ?_ | refine vR_skip (by decide) ?_
    | ((with_reducible refine vB_i ?_ ?_) <;> intro _ <;> (first | (exfalso; omega) | (exact absurd trivial ‹¬True›) | (try dsimp only [])))
    | ((with_reducible refine vOps_nil' ?_); refine Kr_i (by kernel_rfl) ?_; generalize hk : plain _ _ = G; simp only [lv, E3, E2, E5, rawX, deadX, EB, simprocAttr, DBC6, Ch.x, Opn.x, St.x] at hk; subst hk)
    | with_reducible refine vSeq_i ?_
    | with_reducible first | refine vRegion_i (by kernel_rfl) ?_ | refine Kv_i ?_
    | ((with_reducible apply vStrK_i); (focus (rfl; done)))
    | ((with_reducible refine imp_i ?_); intro _)
    | with_reducible first | refine Ks_n ?_ | refine Ks_r ?_ | refine Ks_e ?_ | refine Kl_e ?_ | refine Kx_n ?_ | refine Kl_r ?_ | refine vRet_i ?_ | refine vSkip_i ?_ | refine vExit_i ?_ | refine vBlock_i ?_ | refine Ks_p ?_ | refine Kl_p ?_ | refine blk_p ?_ | exact Kb_p | refine vGoto_i ?_ | refine vLabel_i ?_ | refine Ks_g ?_ | refine Kl_g ?_ | refine blk_g ?_ | refine jmp_g ?_ | refine jmp_n ?_ | refine jmp_r ?_ | refine nog_n ?_ | refine nog_r ?_ | refine blk_n ?_ | refine blk_r ?_ | refine blk_e ?_ | refine blk_o (by decide) ?_ | refine cp_t ?_ | refine cp_f ?_
    | ((with_reducible apply vCond_x); (focus (simp only [lv, E1, E2, E5, ET, T, mvB, bxB, sxB, rxB, fwd, fwds, inv, mOk, EB, simprocAttr, DBC6, Ch.x, Opn.x, St.x]; with_reducible first | exact Eq.refl (bo true) | exact Eq.refl (bo false))))
    | ((with_reducible refine And.intro ?_ ?_); (focus (try omega)))
  all_goals try (simp only [List.length_append, List.length_cons, List.length_nil, numB_len]; omega)
  · rename_i k1
    rw [opF_no (by omega) (by omega) (by omega) (by omega)]
    refine Kf_r ?_
    simp only [Tryz.f40, E4, E3, E2, E5, rawX, deadX, ET, T, EB, simprocAttr, DBC6, Ch.x, Opn.x, St.x, bs_nil]
  · rename_i k1 k2
    rw [opF_no (by omega) (by omega) (by omega) (by omega)]
    refine Kf_r ?_
    simp only [Tryz.f40, E4, E3, E2, E5, rawX, deadX, ET, T, EB, simprocAttr, DBC6, Ch.x, Opn.x, St.x, bs_nil]
  · rename_i k1 k2 k3 hb1 k4 k5 k6
    exfalso
    rw [numB_len, numB_len] at k6
    omega
  · rename_i k1 k2 k3 hb1 k4 k5 k6
    have hn : ¬ (isI o.at_ = false ∨ isI o.to_ = false) := fun q => by
      rcases q with q | q
      · rw [isI_t hb1] at q; cases q
      · rw [isI_t hb] at q; cases q
    rw [opF_del k4 hn, k4, w_2, ← bs_app]
    refine Kf_r ?_
    simp only [Tryz.f40, E4, E3, E2, E5, rawX, deadX, ET, T, EB, simprocAttr, DBC6, Ch.x, Opn.x, St.x]
    rfl
  · rename_i k1 k2 k3 hb1 k4
    rw [opF_err2 k4 (.inr (isI_f hb))]
    refine Kf_r ?_
    simp only [Tryz.f40, E4, E3, E2, E5, rawX, deadX, ET, T, EB, simprocAttr, DBC6, Ch.x, Opn.x, St.x, bs_nil]
  · rename_i k1 k2 k3 k4 k5 k6
    rw [opF_err1 k5 (.inr (List.eq_nil_of_length_eq_zero (by omega)))]
    refine Kf_r ?_
    simp only [Tryz.f40, E4, E3, E2, E5, rawX, deadX, ET, T, EB, simprocAttr, DBC6, Ch.x, Opn.x, St.x, bs_nil]
  · rename_i k1 k2 k3 k4 k5 k6 k7 k8
    have hn : ¬ (isI o.at_ = false ∨ o.text = []) := fun q => by
      rcases q with q | q
      · rw [isI_t hb] at q; cases q
      · rw [q] at k6; exact k6 rfl
    have hs := scal_of k7
    rw [show encV o.text = encF o.text from if_pos hs, numB_len] at k8
    rw [opF_big k5 hn hs (by omega)]
    refine Kf_r ?_
    simp only [Tryz.f40, E4, E3, E2, E5, rawX, deadX, ET, T, EB, simprocAttr, DBC6, Ch.x, Opn.x, St.x, bs_nil]
  · rename_i k1 k2 k3 k4 k5 k6 k7 k8
    have hn : ¬ (isI o.at_ = false ∨ o.text = []) := fun q => by
      rcases q with q | q
      · rw [isI_t hb] at q; cases q
      · rw [q] at k6; exact k6 rfl
    have hs := scal_of k7
    rw [show encV o.text = encF o.text from if_pos hs, numB_len] at k8
    rw [opF_ins k5 hn hs (by omega), show encV o.text = encF o.text from if_pos hs, k5, w_1, ← bs_app]
    refine Kf_r ?_
    simp only [Tryz.f40, E4, E3, E2, E5, rawX, deadX, ET, T, EB, simprocAttr, DBC6, Ch.x, Opn.x, St.x]
    rfl
  · rename_i k1 k2 k3 k4 k5 k6 k7
    have hn : ¬ (isI o.at_ = false ∨ o.text = []) := fun q => by
      rcases q with q | q
      · rw [isI_t hb] at q; cases q
      · rw [q] at k6; exact k6 rfl
    have hs := not_scal k7
    rw [opF_scal k5 hn hs, if_neg hs]
    refine Kf_r ?_
    simp only [Tryz.f40, E4, E3, E2, E5, rawX, deadX, ET, T, EB, simprocAttr, DBC6, Ch.x, Opn.x, St.x, bs_nil]
  · rename_i k1 k2 k3
    have e : opF o = ([], 2) := by
      rcases (by omega : o.kind = 1 ∨ o.kind = 2) with q | q
      · exact opF_err1 q (.inl (isI_f hb))
      · exact opF_err2 q (.inl (isI_f hb))
    rw [e]
    refine Kf_r ?_
    simp only [Tryz.f40, E4, E3, E2, E5, rawX, deadX, ET, T, EB, simprocAttr, DBC6, Ch.x, Opn.x, St.x, bs_nil]
  · rename_i k1 k2 k3 k4 k5 k6
    rw [opF_un (by omega), show IntKind.u8.wrap o.kind = o.kind from u8in (by omega) (by omega)]
    refine Kf_r ?_
    simp only [Tryz.f40, E4, E3, E2, E5, rawX, deadX, ET, T, EB, simprocAttr, DBC6, Ch.x, Opn.x, St.x, bs, List.map_cons, List.map_nil]
end Go.Proofs.YtdpflafjfkooeaaGreatDoorG
namespace Go.Proofs.YtdpflafjfkooeaaGreatDoorG
open Go Go.RowKit Go.Proofs
set_option linter.unusedSimpArgs false
set_option linter.unusedVariables false
def formG (r : Int) : List Int := if szU r = 0 then [] else formF r
theorem formG_len (r : Int) : ((formG r).length : Int) = szU r := by
  unfold formG
  by_cases h : szU r = 0
  · rw [if_pos h, h]; rfl
  · rw [if_neg h]; exact form_len h
/-- How many bytes the numbers have, one by one. -/
def textN (l : List Int) : Nat := (l.flatMap formG).length
theorem textN_1 {l : List Int} {k : Nat} (h : k < l.length) : (textN (l.take (k + 1)) : Int) = textN (l.take k) + szU (l.getD k 0) := by
  unfold textN
  rw [take_1 h, List.flatMap_append, List.length_append]
  simp only [List.flatMap_cons, List.flatMap_nil, List.append_nil]
  have := formG_len (l.getD k 0)
  omega
theorem textN_le (l : List Int) : textN l ≤ 4 * l.length := by
  unfold textN
  induction l with
  | nil => simp
  | cons r l ih => have h1 := formG_len r; have h2 := szU_le r; simp only [List.flatMap_cons, List.length_append, List.length_cons] at ih ⊢; omega
theorem textN_scal {l : List Int} (hs : scal l) : textN l = (encV l).length := by
  have : ∀ l : List Int, (∀ r ∈ l, szU r ≠ 0) → l.flatMap formG = l.flatMap formF := fun l => by
    induction l with
    | nil => intro _; rfl
    | cons r l ih => intro h; rw [List.flatMap_cons, List.flatMap_cons, ih fun r hr => h r (by simp [hr])]; unfold formG; rw [if_neg (h r (by simp))]
  unfold textN encV encF
  rw [if_pos hs, this l fun r hr => ?_]
  obtain ⟨i, hi, rfl⟩ := List.getElem_of_mem hr
  have := hs i hi
  rwa [List.getD_eq_getElem?_getD, List.getElem?_eq_getElem hi] at this
theorem DBC7 : type_of% (And.intro @List.length_map.{0,0} (And.intro @bs_len (And.intro @rn_len (And.intro @chs_len (And.intro @chs_cnt (And.intro @List.length_append.{0} (And.intro @List.length_cons.{0} @List.length_nil.{0}))))))) := ⟨@List.length_map.{0,0}, @bs_len, @rn_len, @chs_len, @chs_cnt, @List.length_append.{0}, @List.length_cons.{0}, @List.length_nil.{0}⟩
set_option maxRecDepth 10000 in
set_option maxHeartbeats 1000000 in
theorem text_ok (l : List Int) (h : R32s l) (hl : l.length ≤ 2000000) : CallOk Tryz.prog 41 [sl (rn l)] (i64 (textN l)) [] true := by
  refine fn_ok' T_ok (orc_ok _) mixed Tryz.func41 rfl (by kernel_rfl) (lv [[0], [0, 3], [0, 3, 4], [0, 3, 4, 8], [0, 3, 4], [0, 3, 4], [2]]) 19 rfl (by simp) rfl (by simp [X.all, PX.all, TV.rawR, SV.isRaw]) ?_
  simp only [argsG, Nat.zero_add, Nat.reduceAdd]
  repeat' first
    | ((first
        | ((with_reducible refine vR_cons (by decide) ?_); generalize hk : KtR _ _ _ _ _ _ _ _ _ _ = k)
        | ((first
        | with_reducible refine vOps_cons' ?_) <;> generalize hk : Kt _ _ _ _ _ _ _ _ _ = k)) <;> (simp only [Tryz.f41, lv, E1, E2, E5, ET, T, mvB, bxB, sxB, rxB, fwd, fwds, inv, mOk, EB, simprocAttr, DBC7, Ch.x, Opn.x, St.x]; (try simp (disch := omega) only [wrap_in, Int.toNat_natCast, tv_rn, tv_ch0, tv_ch1, tv_ch2]); subst hk))
    | with_reducible first | refine Kt_p ?_ | refine Kt_i (by kernel_rfl) ?_ | refine Kr_f (by kernel_rfl) ?_
    | (with_reducible refine Kr_t ?_; simp only [List.length_append, List.length_cons, List.length_nil, Nat.reduceAdd, Nat.reduceSub, List.drop_succ_cons, List.drop_zero])
    | with_reducible first | refine vR_nil ?_ | refine KtR_i (by kernel_rfl) ?_ | refine KrR_i (by kernel_rfl) ?_ | refine vR_skip (by decide) ?_
    | ((with_reducible refine vB_i ?_ ?_) <;> intro _ <;> (first | (exfalso; omega) | (exact absurd trivial ‹¬True›) | (try dsimp only [])))
    | ((with_reducible refine vOps_nil' ?_); refine Kr_i (by kernel_rfl) ?_; generalize hk : plain _ _ = G; simp only [lv, E3, E2, E5, rawX, deadX, EB, simprocAttr, DBC7, Ch.x, Opn.x, St.x] at hk; subst hk)
    | with_reducible refine vSeq_i ?_
    | with_reducible first | refine vRegion_i (by kernel_rfl) ?_ | refine Kv_i ?_
    | ((with_reducible apply vStrK_i); (focus (rfl; done)))
    | ((with_reducible refine imp_i ?_); intro _)
    | with_reducible first | refine Ks_n ?_ | refine Ks_r ?_ | refine Ks_e ?_ | refine Kl_e ?_ | refine Kx_n ?_ | refine Kl_r ?_ | refine vRet_i ?_ | refine vSkip_i ?_ | refine vExit_i ?_ | refine vBlock_i ?_ | refine Ks_p ?_ | refine Kl_p ?_ | refine blk_p ?_ | exact Kb_p | refine vGoto_i ?_ | refine vLabel_i ?_ | refine Ks_g ?_ | refine Kl_g ?_ | refine blk_g ?_ | refine jmp_g ?_ | refine jmp_n ?_ | refine jmp_r ?_ | refine nog_n ?_ | refine nog_r ?_ | refine blk_n ?_ | refine blk_r ?_ | refine blk_e ?_ | refine blk_o (by decide) ?_ | refine cp_t ?_ | refine cp_f ?_
    | ((with_reducible apply vCond_x); (focus (simp only [lv, E1, E2, E5, ET, T, mvB, bxB, sxB, rxB, fwd, fwds, inv, mOk, EB, simprocAttr, DBC7, Ch.x, Opn.x, St.x]; with_reducible first | exact Eq.refl (bo true) | exact Eq.refl (bo false))))
    | ((with_reducible refine And.intro ?_ ?_); (focus (try omega)))
  refine vLoop_s (fun k : Nat => [(.t 0, .t (sl (rn l))), (.t 3, .t (i64 (textN (l.take k)))), (.t 4, .t (i64 k))]) (fun k => k ≤ l.length) (fun k => l.length - k) 0 (by omega) rfl ?_
  intro k hk
  have hb := textN_le (l.take k)
  rw [List.length_take] at hb
  have hz := szU_le (l.getD k 0)
  repeat' first
    | ((first
        | ((with_reducible refine vR_cons (by decide) ?_); generalize hk : KtR _ _ _ _ _ _ _ _ _ _ = k)
        | ((first
        | with_reducible refine vOps_cons' ?_
        | ((with_reducible apply orc_i); (focus (exact size1_ok _ (h.at (by omega)); done)))) <;> generalize hk : Kt _ _ _ _ _ _ _ _ _ = k)) <;> (simp only [Tryz.f41, lv, E1, E2, E5, ET, T, mvB, bxB, sxB, rxB, fwd, fwds, inv, mOk, EB, simprocAttr, DBC7, Ch.x, Opn.x, St.x]; (try simp (disch := omega) only [wrap_in, Int.toNat_natCast, tv_rn, tv_ch0, tv_ch1, tv_ch2]); subst hk))
    | with_reducible first | refine Kt_p ?_ | refine Kt_i (by kernel_rfl) ?_ | refine Kr_f (by kernel_rfl) ?_
    | (with_reducible refine Kr_t ?_; simp only [List.length_append, List.length_cons, List.length_nil, Nat.reduceAdd, Nat.reduceSub, List.drop_succ_cons, List.drop_zero])
    | with_reducible first | refine vR_nil ?_ | refine KtR_i (by kernel_rfl) ?_ | refine KrR_i (by kernel_rfl) ?_ | refine vR_skip (by decide) ?_
    | ((with_reducible refine vB_i ?_ ?_) <;> intro _ <;> (first | (exfalso; omega) | (exact absurd trivial ‹¬True›) | (try dsimp only [])))
    | ((with_reducible refine vOps_nil' ?_); refine Kr_i (by kernel_rfl) ?_; generalize hk : plain _ _ = G; simp only [lv, E3, E2, E5, rawX, deadX, EB, simprocAttr, DBC7, Ch.x, Opn.x, St.x] at hk; subst hk)
    | with_reducible refine vSeq_i ?_
    | with_reducible first | refine vRegion_i (by kernel_rfl) ?_ | refine Kv_i ?_
    | ((with_reducible apply vStrK_i); (focus (rfl; done)))
    | ((with_reducible refine imp_i ?_); intro _)
    | with_reducible first | refine Ks_n ?_ | refine Ks_r ?_ | refine Ks_e ?_ | refine Kl_e ?_ | refine Kx_n ?_ | refine Kl_r ?_ | refine vRet_i ?_ | refine vSkip_i ?_ | refine vExit_i ?_ | refine vBlock_i ?_ | refine Ks_p ?_ | refine Kl_p ?_ | refine blk_p ?_ | exact Kb_p | refine vGoto_i ?_ | refine vLabel_i ?_ | refine Ks_g ?_ | refine Kl_g ?_ | refine blk_g ?_ | refine jmp_g ?_ | refine jmp_n ?_ | refine jmp_r ?_ | refine nog_n ?_ | refine nog_r ?_ | refine blk_n ?_ | refine blk_r ?_ | refine blk_e ?_ | refine blk_o (by decide) ?_ | refine cp_t ?_ | refine cp_f ?_
    | ((with_reducible apply vCond_x); (focus (simp only [lv, E1, E2, E5, ET, T, mvB, bxB, sxB, rxB, fwd, fwds, inv, mOk, EB, simprocAttr, DBC7, Ch.x, Opn.x, St.x]; with_reducible first | exact Eq.refl (bo true) | exact Eq.refl (bo false))))
    | ((with_reducible refine And.intro ?_ ?_); (focus (try omega)))
  · refine Kl_n ⟨k + 1, by omega, by omega, ?_⟩
    rw [textN_1 (by omega)]
    simp only [Int.natCast_add, Int.natCast_one]
  · refine Kf_r ?_
    rw [List.take_of_length_le (by omega)]
    simp only [Tryz.f41, E4, E3, E2, E5, rawX, deadX, ET, T, EB, simprocAttr, DBC7, Ch.x, Opn.x, St.x]
set_option maxRecDepth 10000 in
theorem rooms_ok (a b c : Int) : CallOk Tryz.prog 14 [geo a b c] (.tup [.one (.v (.raw (.int .i64 (if (secF a b c).2 = 0 then 64 * a else 0)))), .one (.v (.raw (.int .i64 (if (secF a b c).2 = 0 then 54 * b else 0)))), .one (.v (.raw (.int .i64 (secF a b c).2)))]) [] true := by
  have hi : (secF a b c).2 = 0 → inS a ∧ inS b := fun h => by
    by_cases q : inS a ∧ inS b ∧ inS c
    · exact ⟨q.1, q.2.1⟩
    · rw [sec_no q] at h; exact absurd h (by decide)
  unfold inS at hi
  have hq := sectors_ok a b c
  refine fn_ok' T_ok (orc_ok _) mixed Tryz.func14 rfl (by kernel_rfl) (lv [[1], [1, 6], [1, 6, 13], [2, 3, 4], [2, 3, 4]]) 21 rfl (by simp) rfl (by simp [X.all, PX.all, TV.rawR, SV.isRaw]) ?_
  simp only [argsG, Nat.zero_add, Nat.reduceAdd]
  repeat' first
    | ((first
        | ((with_reducible refine vR_cons (by decide) ?_); generalize hk : KtR _ _ _ _ _ _ _ _ _ _ = k)
        | ((first
        | with_reducible refine vOps_cons' ?_
        | ((with_reducible apply orc_i); (focus (exact hq; done)))) <;> generalize hk : Kt _ _ _ _ _ _ _ _ _ = k)) <;> (simp only [Tryz.f14, lv, E1, E2, E5, ET, T, mvB, bxB, sxB, rxB, fwd, fwds, inv, mOk, EB, simprocAttr, DBC7, Ch.x, Opn.x, St.x]; (try simp (disch := omega) only [wrap_in, Int.toNat_natCast, tv_rn, tv_ch0, tv_ch1, tv_ch2]); subst hk))
    | with_reducible first | refine Kt_p ?_ | refine Kt_i (by kernel_rfl) ?_ | refine Kr_f (by kernel_rfl) ?_
    | (with_reducible refine Kr_t ?_; simp only [List.length_append, List.length_cons, List.length_nil, Nat.reduceAdd, Nat.reduceSub, List.drop_succ_cons, List.drop_zero])
    | with_reducible first | refine vR_nil ?_ | refine KtR_i (by kernel_rfl) ?_ | refine KrR_i (by kernel_rfl) ?_ | refine vR_skip (by decide) ?_
    | ((with_reducible refine vB_i ?_ ?_) <;> intro _ <;> (first | (exfalso; omega) | (exact absurd trivial ‹¬True›) | (try dsimp only [])))
    | ((with_reducible refine vOps_nil' ?_); refine Kr_i (by kernel_rfl) ?_; generalize hk : plain _ _ = G; simp only [lv, E3, E2, E5, rawX, deadX, EB, simprocAttr, DBC7, Ch.x, Opn.x, St.x] at hk; subst hk)
    | with_reducible refine vSeq_i ?_
    | with_reducible first | refine vRegion_i (by kernel_rfl) ?_ | refine Kv_i ?_
    | ((with_reducible apply vStrK_i); (focus (rfl; done)))
    | ((with_reducible refine imp_i ?_); intro _)
    | with_reducible first | refine Ks_n ?_ | refine Ks_r ?_ | refine Ks_e ?_ | refine Kl_e ?_ | refine Kx_n ?_ | refine Kl_r ?_ | refine vRet_i ?_ | refine vSkip_i ?_ | refine vExit_i ?_ | refine vBlock_i ?_ | refine Ks_p ?_ | refine Kl_p ?_ | refine blk_p ?_ | exact Kb_p | refine vGoto_i ?_ | refine vLabel_i ?_ | refine Ks_g ?_ | refine Kl_g ?_ | refine blk_g ?_ | refine jmp_g ?_ | refine jmp_n ?_ | refine jmp_r ?_ | refine nog_n ?_ | refine nog_r ?_ | refine blk_n ?_ | refine blk_r ?_ | refine blk_e ?_ | refine blk_o (by decide) ?_ | refine cp_t ?_ | refine cp_f ?_
    | ((with_reducible apply vCond_x); (focus (simp only [lv, E1, E2, E5, ET, T, mvB, bxB, sxB, rxB, fwd, fwds, inv, mOk, EB, simprocAttr, DBC7, Ch.x, Opn.x, St.x]; with_reducible first | exact Eq.refl (bo true) | exact Eq.refl (bo false))))
    | ((with_reducible refine And.intro ?_ ?_); (focus (try omega)))
  · rename_i k
    refine Kf_r ?_
    simp only [Tryz.f14, E4, E3, E2, E5, rawX, deadX, ET, T, EB, simprocAttr, DBC7, Ch.x, Opn.x, St.x, if_pos k, k]
  · rename_i k
    refine Kf_r ?_
    simp only [Tryz.f14, E4, E3, E2, E5, rawX, deadX, ET, T, EB, simprocAttr, DBC7, Ch.x, Opn.x, St.x, if_neg k]
set_option maxRecDepth 10000 in
theorem rcostOp_ok (o : Opn) (h : R32s o.text) (hl : o.text.length ≤ 2000000) : CallOk Tryz.prog 25 [o.x] (.tup [.one (.v (.raw (.int .i64 (opC o)))), .one (.v (.raw (.int .i64 (opF o).2)))]) [] true := by
  have hq := refOp_ok o h hl
  have hle := opF_le o
  simp only [Opn.x] at hq
  refine fn_ok' T_ok (orc_ok _) mixed Tryz.func25 rfl (by kernel_rfl) (lv [[1], [4, 5], [4, 5, 12], [2, 3], [2, 3]]) 17 rfl (by simp) rfl (by simp [X.all, PX.all, TV.rawR, SV.isRaw]) ?_
  simp only [argsG, Nat.zero_add, Nat.reduceAdd, Opn.x]
  repeat' first
    | ((first
        | ((with_reducible refine vR_cons (by decide) ?_); generalize hk : KtR _ _ _ _ _ _ _ _ _ _ = k)
        | ((first
        | with_reducible refine vOps_cons' ?_
        | ((with_reducible apply orc_i); (focus (exact hq; done)))) <;> generalize hk : Kt _ _ _ _ _ _ _ _ _ = k)) <;> (simp only [Tryz.f25, lv, E1, E2, E5, ET, T, mvB, bxB, sxB, rxB, fwd, fwds, inv, mOk, EB, simprocAttr, DBC7, Ch.x, Opn.x, St.x]; (try simp (disch := omega) only [wrap_in, Int.toNat_natCast, tv_rn, tv_ch0, tv_ch1, tv_ch2]); subst hk))
    | with_reducible first | refine Kt_p ?_ | refine Kt_i (by kernel_rfl) ?_ | refine Kr_f (by kernel_rfl) ?_
    | (with_reducible refine Kr_t ?_; simp only [List.length_append, List.length_cons, List.length_nil, Nat.reduceAdd, Nat.reduceSub, List.drop_succ_cons, List.drop_zero])
    | with_reducible first | refine vR_nil ?_ | refine KtR_i (by kernel_rfl) ?_ | refine KrR_i (by kernel_rfl) ?_ | refine vR_skip (by decide) ?_
    | ((with_reducible refine vB_i ?_ ?_) <;> intro _ <;> (first | (exfalso; omega) | (exact absurd trivial ‹¬True›) | (try dsimp only [])))
    | ((with_reducible refine vOps_nil' ?_); refine Kr_i (by kernel_rfl) ?_; generalize hk : plain _ _ = G; simp only [lv, E3, E2, E5, rawX, deadX, EB, simprocAttr, DBC7, Ch.x, Opn.x, St.x] at hk; subst hk)
    | with_reducible refine vSeq_i ?_
    | with_reducible first | refine vRegion_i (by kernel_rfl) ?_ | refine Kv_i ?_
    | ((with_reducible apply vStrK_i); (focus (rfl; done)))
    | ((with_reducible refine imp_i ?_); intro _)
    | with_reducible first | refine Ks_n ?_ | refine Ks_r ?_ | refine Ks_e ?_ | refine Kl_e ?_ | refine Kx_n ?_ | refine Kl_r ?_ | refine vRet_i ?_ | refine vSkip_i ?_ | refine vExit_i ?_ | refine vBlock_i ?_ | refine Ks_p ?_ | refine Kl_p ?_ | refine blk_p ?_ | exact Kb_p | refine vGoto_i ?_ | refine vLabel_i ?_ | refine Ks_g ?_ | refine Kl_g ?_ | refine blk_g ?_ | refine jmp_g ?_ | refine jmp_n ?_ | refine jmp_r ?_ | refine nog_n ?_ | refine nog_r ?_ | refine blk_n ?_ | refine blk_r ?_ | refine blk_e ?_ | refine blk_o (by decide) ?_ | refine cp_t ?_ | refine cp_f ?_
    | ((with_reducible apply vCond_x); (focus (simp only [lv, E1, E2, E5, ET, T, mvB, bxB, sxB, rxB, fwd, fwds, inv, mOk, EB, simprocAttr, DBC7, Ch.x, Opn.x, St.x]; with_reducible first | exact Eq.refl (bo true) | exact Eq.refl (bo false))))
    | ((with_reducible refine And.intro ?_ ?_); (focus (try omega)))
  · rename_i k
    refine Kf_r ?_
    simp only [Tryz.f25, E4, E3, E2, E5, rawX, deadX, ET, T, EB, simprocAttr, DBC7, Ch.x, Opn.x, St.x, opC, if_pos k, k]
  · rename_i k
    refine Kf_r ?_
    simp only [Tryz.f25, E4, E3, E2, E5, rawX, deadX, ET, T, EB, simprocAttr, DBC7, Ch.x, Opn.x, St.x, opC, if_neg k]
end Go.Proofs.YtdpflafjfkooeaaGreatDoorG
namespace Go.Proofs.YtdpflafjfkooeaaGreatDoorG
open Go Go.RowKit Go.Proofs
set_option linter.unusedSimpArgs false
set_option linter.unusedVariables false
theorem chs_ap2 (a b : List Ch) : chs (a ++ b) = chs a ++ chs b := by simp [chs]
def sumN (l : List Ch) : Nat := (l.map fun c => 12 + textN c.gone + textN c.came).sum
theorem sumN_1 {l : List Ch} {k : Nat} (h : k < l.length) : sumN (l.take (k + 1)) = sumN (l.take k) + (12 + textN (l.getD k noCh).gone + textN (l.getD k noCh).came) := by
  have e : l.take (k + 1) = l.take k ++ [l.getD k noCh] := by rw [List.take_add_one]; simp [List.getD, List.getElem?_eq_getElem h]
  unfold sumN
  rw [e, List.map_append, List.sum_append]
  simp
theorem sumN_le {l : List Ch} (h : ∀ c ∈ l, c.small) : sumN l ≤ l.length * 16000012 := by
  unfold sumN
  induction l with
  | nil => simp
  | cons c l ih =>
    have h1 := ih fun c hc => h c (by simp [hc])
    have h2 := h c (by simp)
    have h3 := textN_le c.gone; have h4 := textN_le c.came; have := h2.1; have := h2.2
    simp only [List.map_cons, List.sum_cons, List.length_cons]; omega
def bytesF (s : St) : Int := 10 + (textN s.text : Int) + (sumN (s.undo ++ s.redo) : Int)
theorem DBC8 : type_of% (And.intro @List.length_map.{0,0} (And.intro @bs_len (And.intro @rn_len (And.intro @chs_len (And.intro @chs_cnt (And.intro @List.length_append.{0} (And.intro @List.length_cons.{0} (And.intro @List.length_nil.{0} @List.nil_append.{0})))))))) := ⟨@List.length_map.{0,0}, @bs_len, @rn_len, @chs_len, @chs_cnt, @List.length_append.{0}, @List.length_cons.{0}, @List.length_nil.{0}, @List.nil_append.{0}⟩
set_option maxRecDepth 10000 in
set_option maxHeartbeats 4000000 in
theorem bytes_ok (s : St) (hs : s.ok) : CallOk Tryz.prog 26 [s.x] (i64 (bytesF s)) [] true := by
  have hlen : (s.undo ++ s.redo).length = s.undo.length + s.redo.length := List.length_append
  have hul := hs.ulen; have hrl := hs.rlen; have htl := hs.len
  have hall : ∀ c ∈ s.undo ++ s.redo, c.ok := fun c hc => by
    rcases List.mem_append.1 hc with q | q
    · exact hs.undo c q
    · exact hs.redo c q
  have ht := textN_le s.text
  refine fn_ok' T_ok (orc_ok _) mixed Tryz.func26 rfl (by kernel_rfl) (lv [[1], [1, 3], [3, 4], [3, 4, 5], [3, 4, 5, 20], [3, 4, 5], [3, 4, 5], [2]]) 40 rfl (by simp) rfl (by simp [X.all, PX.all, TV.rawR, SV.isRaw]) ?_
  simp only [argsG, Nat.zero_add, Nat.reduceAdd, St.x]
  repeat' first
    | ((first
        | ((with_reducible refine vR_cons (by decide) ?_); generalize hk : KtR _ _ _ _ _ _ _ _ _ _ = k)
        | ((first
        | with_reducible refine vOps_cons' ?_
        | ((with_reducible apply orc_i); (focus (exact text_ok _ hs.run (by omega); done)))) <;> generalize hk : Kt _ _ _ _ _ _ _ _ _ = k)) <;> (simp only [Tryz.f26, lv, E1, E2, E5, ET, T, mvB, bxB, sxB, rxB, fwd, fwds, inv, mOk, EB, simprocAttr, DBC8, Ch.x, Opn.x, St.x]; (try simp (disch := omega) only [wrap_in, Int.toNat_natCast, tv_rn, tv_ch0, tv_ch1, tv_ch2]); subst hk))
    | with_reducible first | refine Kt_p ?_ | refine Kt_i (by kernel_rfl) ?_ | refine Kr_f (by kernel_rfl) ?_
    | (with_reducible refine Kr_t ?_; simp only [List.length_append, List.length_cons, List.length_nil, Nat.reduceAdd, Nat.reduceSub, List.drop_succ_cons, List.drop_zero])
    | with_reducible first | refine vR_nil ?_ | refine KtR_i (by kernel_rfl) ?_ | refine KrR_i (by kernel_rfl) ?_ | refine vR_skip (by decide) ?_
    | ((with_reducible refine vB_i ?_ ?_) <;> intro _ <;> (first | (exfalso; omega) | (exact absurd trivial ‹¬True›) | (try dsimp only [])))
    | ((with_reducible refine vOps_nil' ?_); refine Kr_i (by kernel_rfl) ?_; generalize hk : plain _ _ = G; simp only [lv, E3, E2, E5, rawX, deadX, EB, simprocAttr, DBC8, Ch.x, Opn.x, St.x] at hk; subst hk)
    | with_reducible refine vSeq_i ?_
    | with_reducible first | refine vRegion_i (by kernel_rfl) ?_ | refine Kv_i ?_
    | ((with_reducible apply vStrK_i); (focus (rfl; done)))
    | ((with_reducible refine imp_i ?_); intro _)
    | with_reducible first | refine Ks_n ?_ | refine Ks_r ?_ | refine Ks_e ?_ | refine Kl_e ?_ | refine Kx_n ?_ | refine Kl_r ?_ | refine vRet_i ?_ | refine vSkip_i ?_ | refine vExit_i ?_ | refine vBlock_i ?_ | refine Ks_p ?_ | refine Kl_p ?_ | refine blk_p ?_ | exact Kb_p | refine vGoto_i ?_ | refine vLabel_i ?_ | refine Ks_g ?_ | refine Kl_g ?_ | refine blk_g ?_ | refine jmp_g ?_ | refine jmp_n ?_ | refine jmp_r ?_ | refine nog_n ?_ | refine nog_r ?_ | refine blk_n ?_ | refine blk_r ?_ | refine blk_e ?_ | refine blk_o (by decide) ?_ | refine cp_t ?_ | refine cp_f ?_
    | ((with_reducible apply vCond_x); (focus (simp only [lv, E1, E2, E5, ET, T, mvB, bxB, sxB, rxB, fwd, fwds, inv, mOk, EB, simprocAttr, DBC8, Ch.x, Opn.x, St.x]; with_reducible first | exact Eq.refl (bo true) | exact Eq.refl (bo false))))
    | ((with_reducible refine And.intro ?_ ?_); (focus (try omega)))
  all_goals try omega
  all_goals try (simp only [cnt, List.length_nil, List.length_append, chs_len]; omega)
  have e0 : 10 + (textN s.text : Int) + (sumN ((s.undo ++ s.redo).take 0) : Int) = 10 + (textN s.text : Int) := by
    show 10 + (textN s.text : Int) + ((0 : Nat) : Int) = _; omega
  refine vLoop_s (fun k : Nat => [(.t 3, .t (i64 (10 + (textN s.text : Int) + (sumN ((s.undo ++ s.redo).take k) : Int)))), (.t 4, .t (.p (.one (.sr 0)))), (.t 5, .t (i64 k)), (.row 0, .row 47 3 (chs (s.undo ++ s.redo)))]) (fun k => k ≤ (s.undo ++ s.redo).length) (fun k => (s.undo ++ s.redo).length - k) 0 (by omega) (by rw [chs_ap2, e0]; try rfl) ?_
  intro k hk
  have hb := sumN_le (l := (s.undo ++ s.redo).take k) fun c hc => (hall c (List.mem_of_mem_take hc)).small
  rw [List.length_take] at hb
  have hc := fun h : k < (s.undo ++ s.redo).length => hall _ (mem_getD h)
  have b1 := fun h : k < (s.undo ++ s.redo).length => Nat.le_trans (textN_le ((s.undo ++ s.redo).getD k noCh).gone) (Nat.mul_le_mul_left 4 (hc h).gone)
  have b2 := fun h : k < (s.undo ++ s.redo).length => Nat.le_trans (textN_le ((s.undo ++ s.redo).getD k noCh).came) (Nat.mul_le_mul_left 4 (hc h).came)
  repeat' first
    | ((first
        | ((with_reducible refine vR_cons (by decide) ?_); generalize hk : KtR _ _ _ _ _ _ _ _ _ _ = k)
        | ((first
        | with_reducible refine vOps_cons' ?_
        | ((with_reducible apply orc_i); (focus (exact text_ok _ (hc (by omega)).rgone (Nat.le_trans (hc (by omega)).gone (by omega)); done)))
        | ((with_reducible apply orc_i); (focus (exact text_ok _ (hc (by omega)).rcame (Nat.le_trans (hc (by omega)).came (by omega)); done)))) <;> generalize hk : Kt _ _ _ _ _ _ _ _ _ = k)) <;> (simp only [Tryz.f26, lv, E1, E2, E5, ET, T, mvB, bxB, sxB, rxB, fwd, fwds, inv, mOk, EB, simprocAttr, DBC8, Ch.x, Opn.x, St.x]; (try simp (disch := omega) only [wrap_in, Int.toNat_natCast, tv_rn, tv_ch0, tv_ch1, tv_ch2]); subst hk))
    | with_reducible first | refine Kt_p ?_ | refine Kt_i (by kernel_rfl) ?_ | refine Kr_f (by kernel_rfl) ?_
    | (with_reducible refine Kr_t ?_; simp only [List.length_append, List.length_cons, List.length_nil, Nat.reduceAdd, Nat.reduceSub, List.drop_succ_cons, List.drop_zero])
    | with_reducible first | refine vR_nil ?_ | refine KtR_i (by kernel_rfl) ?_ | refine KrR_i (by kernel_rfl) ?_ | refine vR_skip (by decide) ?_
    | ((with_reducible refine vB_i ?_ ?_) <;> intro _ <;> (first | (exfalso; omega) | (exact absurd trivial ‹¬True›) | (try dsimp only [])))
    | ((with_reducible refine vOps_nil' ?_); refine Kr_i (by kernel_rfl) ?_; generalize hk : plain _ _ = G; simp only [lv, E3, E2, E5, rawX, deadX, EB, simprocAttr, DBC8, Ch.x, Opn.x, St.x] at hk; subst hk)
    | with_reducible refine vSeq_i ?_
    | with_reducible first | refine vRegion_i (by kernel_rfl) ?_ | refine Kv_i ?_
    | ((with_reducible apply vStrK_i); (focus (rfl; done)))
    | ((with_reducible refine imp_i ?_); intro _)
    | with_reducible first | refine Ks_n ?_ | refine Ks_r ?_ | refine Ks_e ?_ | refine Kl_e ?_ | refine Kx_n ?_ | refine Kl_r ?_ | refine vRet_i ?_ | refine vSkip_i ?_ | refine vExit_i ?_ | refine vBlock_i ?_ | refine Ks_p ?_ | refine Kl_p ?_ | refine blk_p ?_ | exact Kb_p | refine vGoto_i ?_ | refine vLabel_i ?_ | refine Ks_g ?_ | refine Kl_g ?_ | refine blk_g ?_ | refine jmp_g ?_ | refine jmp_n ?_ | refine jmp_r ?_ | refine nog_n ?_ | refine nog_r ?_ | refine blk_n ?_ | refine blk_r ?_ | refine blk_e ?_ | refine blk_o (by decide) ?_ | refine cp_t ?_ | refine cp_f ?_
    | ((with_reducible apply vCond_x); (focus (simp only [lv, E1, E2, E5, ET, T, mvB, bxB, sxB, rxB, fwd, fwds, inv, mOk, EB, simprocAttr, DBC8, Ch.x, Opn.x, St.x]; with_reducible first | exact Eq.refl (bo true) | exact Eq.refl (bo false))))
    | ((with_reducible refine And.intro ?_ ?_); (focus (try omega)))
  · refine Kl_n ⟨k + 1, by omega, by omega, ?_⟩
    have hk2 : k < (s.undo ++ s.redo).length := by omega
    have e : 10 + (textN s.text : Int) + (sumN ((s.undo ++ s.redo).take (k + 1)) : Int) = 10 + (textN s.text : Int) + (sumN ((s.undo ++ s.redo).take k) : Int) + 12 + (textN ((s.undo ++ s.redo).getD k noCh).gone : Int) + (textN ((s.undo ++ s.redo).getD k noCh).came : Int) := by
      rw [sumN_1 hk2]; omega
    rw [e]
    simp only [Int.natCast_add, Int.natCast_one]
  · refine Kf_r ?_
    rw [List.take_of_length_le (by omega)]
    simp only [Tryz.f26, E4, E3, E2, E5, rawX, deadX, ET, T, EB, simprocAttr, DBC8, Ch.x, Opn.x, St.x, bytesF]
/-! ### a state that may be takes as many bytes as are written of it -/
theorem chF_len {c : Ch} (h1 : scal c.gone) (h2 : scal c.came) : (chF c).length = 12 + textN c.gone + textN c.came := by
  simp only [chF, pieceF, List.length_append, numB_len, textN_scal h1, textN_scal h2]; omega
theorem flat_len2 {l : List Ch} (h : ∀ c ∈ l, scal c.gone ∧ scal c.came) : (l.flatMap chF).length = sumN l := by
  unfold sumN
  induction l with
  | nil => rfl
  | cons c l ih =>
    have h1 := ih fun c hc => h c (by simp [hc])
    have h2 := h c (by simp)
    simp only [List.flatMap_cons, List.length_append, List.map_cons, List.sum_cons, h1, chF_len h2.1 h2.2]
theorem sumN_app (a b : List Ch) : sumN (a ++ b) = sumN a + sumN b := by simp [sumN]
theorem walk_scal : ∀ {l : List Ch} {n : Nat} {t : List Int}, walkN l n t = true → ∀ j, j < n → scal (l.getD j noCh).gone ∧ scal (l.getD j noCh).came
  | l, 0, t, _, j, hj => by omega
  | l, n + 1, t, h, j, hj => by
    simp only [walkN, Bool.and_eq_true, decide_eq_true_eq] at h
    rcases Nat.lt_or_eq_of_le (Nat.le_of_lt_succ hj) with q | q
    · exact walk_scal h.2 j q
    · subst q; exact ⟨h.1.1.1, h.1.1.2.1⟩
theorem right_scal {s : St} (h : rightF s = 0) : scal s.text ∧ (∀ c ∈ s.undo, scal c.gone ∧ scal c.came) ∧ ∀ c ∈ s.redo, scal c.gone ∧ scal c.came := by
  unfold rightF at h
  split at h
  · exact absurd h (by decide)
  · split at h
    · exact absurd h (by decide)
    · rename_i hs
      split at h
      · exact absurd h (by decide)
      · rename_i hw
        have hw' : walkN (s.undo.map Ch.inv) s.undo.length s.text = true ∧ walkN s.redo s.redo.length s.text = true := by simpa using hw
        refine ⟨Decidable.not_not.1 hs, fun c hc => ?_, fun c hc => ?_⟩
        · obtain ⟨j, hj, rfl⟩ := List.getElem_of_mem hc
          have := walk_scal hw'.1 j hj
          rw [getD_inv] at this
          have e : s.undo.getD j noCh = s.undo[j] := by simp [List.getD, List.getElem?_eq_getElem hj]
          rw [e] at this
          exact ⟨this.2, this.1⟩
        · obtain ⟨j, hj, rfl⟩ := List.getElem_of_mem hc
          have := walk_scal hw'.2 j hj
          have e : s.redo.getD j noCh = s.redo[j] := by simp [List.getD, List.getElem?_eq_getElem hj]
          rw [e] at this
          exact this
theorem isI_0 : isI 0 = true := by decide
theorem st_len {n : Int} {s : St} (hn : isI n = true) (h : rightF s = 0) : ((stF n s).1.length : Int) = bytesF s := by
  obtain ⟨h1, h2, h3⟩ := right_scal h
  rw [stF_ok hn h]
  simp only [List.length_append, numB_len, pieceF, chsF, List.length_cons, flat_len2 h2, flat_len2 h3, ← textN_scal h1, bytesF, sumN_app]
  omega
end Go.Proofs.YtdpflafjfkooeaaGreatDoorG
/- A21: what is done to a state that may be is one: in plain Lean. -/
namespace Go.Proofs.YtdpflafjfkooeaaGreatDoorG
open Go Go.RowKit Go.Proofs
set_option linter.unusedSimpArgs false
set_option linter.unusedVariables false
theorem inv_inv (c : Ch) : c.inv.inv = c := rfl
theorem scal_app {a b : List Int} (ha : scal a) (hb : scal b) : scal (a ++ b) := fun i hi => by
  by_cases h : i < a.length
  · have := ha i h
    simpa [List.getD, List.getElem?_append, h] using this
  · have := hb (i - a.length) (by simp at hi; omega)
    simpa [List.getD, List.getElem?_append, h] using this
theorem scal_take {a : List Int} (ha : scal a) (n : Nat) : scal (a.take n) := fun i hi => by
  simp at hi
  have := ha i (by omega)
  simpa [List.getD, List.getElem?_take, show i < n by omega] using this
theorem scal_drop {a : List Int} (ha : scal a) (n : Nat) : scal (a.drop n) := fun i hi => by
  simp at hi
  have := ha (n + i) (by omega)
  simpa [List.getD, List.getElem?_drop] using this
theorem scal_done {c : Ch} {t : List Int} (hc : c.good t) (ht : scal t) : scal (c.done t) := scal_app (scal_app (scal_take ht _) hc.2.1) (scal_drop ht _)
/-- A change and its inverse. -/
theorem undone {c : Ch} {t : List Int} (h : c.good t) : c.inv.good (c.done t) ∧ c.inv.done (c.done t) = t := by
  obtain ⟨s1, s2, f1, f2, f3, f4⟩ := h
  obtain ⟨a, ha⟩ : ∃ a : Nat, c.at_ = a := ⟨c.at_.toNat, by omega⟩
  have e1 : c.at_.toNat = a := by omega
  have e2 : (c.at_ + (c.gone.length : Int)).toNat = a + c.gone.length := by omega
  have e3 : (c.at_ + (c.came.length : Int)).toNat = a + c.came.length := by omega
  have hla : (t.take a).length = a := by rw [List.length_take]; omega
  have hlen : (c.done t).length = t.length - c.gone.length + c.came.length := Ch.done_len ⟨f1, f2, f3, f4⟩
  have hd : (c.done t).drop a = c.came ++ t.drop (a + c.gone.length) := by
    unfold Ch.done
    rw [e1, e2, List.append_assoc, List.drop_append_of_le_length (by omega), List.drop_of_length_le (by omega), List.nil_append]
  have hf : c.inv.fits (c.done t) := by
    refine ⟨f1, ?_, ?_, ?_⟩
    · show c.at_ ≤ _; omega
    · show (c.came.length : Int) ≤ _ - c.at_; omega
    · show ((c.done t).drop c.at_.toNat).take c.came.length = c.came
      rw [e1, hd, List.take_left']
      rfl
  refine ⟨⟨s2, s1, hf⟩, ?_⟩
  show (c.done t).take c.at_.toNat ++ c.gone ++ (c.done t).drop (c.at_ + (c.came.length : Int)).toNat = t
  rw [e1, e3]
  have h1 : (c.done t).take a = t.take a := by
    unfold Ch.done
    rw [e1, List.append_assoc, List.take_append_of_le_length (by omega), List.take_take, Nat.min_self]
  have h2 : (c.done t).drop (a + c.came.length) = t.drop (a + c.gone.length) := by
    rw [← List.drop_drop, hd, List.drop_left']
    rfl
  rw [h1, h2]
  rw [e1] at f4
  conv => rhs; rw [← List.take_append_drop a t]
  rw [List.append_assoc]
  congr 1
  conv => rhs; rw [← List.take_append_drop c.gone.length (t.drop a)]
  rw [f4, List.drop_drop]
theorem getD_app {l : List Ch} {x : Ch} : (l ++ [x]).getD l.length noCh = x := by simp [List.getD]
theorem getD_app_lt {l r : List Ch} {k : Nat} (h : k < l.length) : (l ++ r).getD k noCh = l.getD k noCh := by simp [List.getD, List.getElem?_append, h]
theorem walk_app {l r : List Ch} : ∀ {n : Nat} {t : List Int}, n ≤ l.length → walkN (l ++ r) n t = walkN l n t
  | 0, _, _ => rfl
  | n + 1, t, h => by simp only [walkN]; rw [getD_app_lt (by omega), walk_app (by omega)]
theorem walk_snoc {l : List Ch} {x : Ch} {t : List Int} : walkN (l ++ [x]) (l.length + 1) t = (decide (x.good t ∧ (x.done t).length ≤ 4096) && walkN l l.length (x.done t)) := by
  simp only [walkN]; rw [getD_app, walk_app (Nat.le_refl _)]
theorem walk_take {l : List Ch} {m : Nat} : ∀ {n : Nat} {t : List Int}, n ≤ m → walkN (l.take m) n t = walkN l n t
  | 0, _, _ => rfl
  | n + 1, t, h => by
    have e : (l.take m).getD n noCh = l.getD n noCh := by simp [List.getD, List.getElem?_take, show n < m by omega]
    simp only [walkN]; rw [e, walk_take (by omega)]
theorem walk_drop {l : List Ch} : ∀ {n : Nat} {t : List Int}, walkN l (n + 1) t = true → walkN (l.drop 1) n t = true
  | 0, _, _ => rfl
  | n + 1, t, h => by
    rw [walkN, Bool.and_eq_true] at h
    have e : (l.drop 1).getD n noCh = l.getD (n + 1) noCh := by simp [List.getD, List.getElem?_drop, Nat.add_comm]
    rw [walkN, e, Bool.and_eq_true]
    exact ⟨h.1, walk_drop h.2⟩
theorem right_of {s : St} (h1 : s.text.length ≤ 4096) (h2 : s.undo.length + s.redo.length ≤ 16) (h3 : scal s.text) (h4 : walkN (s.undo.map Ch.inv) s.undo.length s.text = true) (h5 : walkN s.redo s.redo.length s.text = true) : rightF s = 0 := by
  unfold rightF
  rw [if_neg (by omega), if_neg (fun h => h h3), if_neg (by rw [h4, h5]; simp)]
end Go.Proofs.YtdpflafjfkooeaaGreatDoorG
/- R2: a state that may be is read again as it was written. -/
namespace Go.Proofs.YtdpflafjfkooeaaGreatDoorG
open Go Go.RowKit Go.Proofs Go.Proofs.YtdpflafjfkooeaaGreatDoorG.Dec
set_option linter.unusedSimpArgs false
set_option linter.unusedVariables false
theorem walk_at : ∀ {l : List Ch} {n : Nat} {t : List Int}, t.length ≤ 4096 → walkN l n t = true → ∀ j, j < n → isI (l.getD j noCh).at_ = true
  | l, 0, t, _, _, j, hj => by omega
  | l, n + 1, t, ht, h, j, hj => by
    simp only [walkN, Bool.and_eq_true, decide_eq_true_eq] at h
    rcases Nat.lt_or_eq_of_le (Nat.le_of_lt_succ hj) with q | q
    · exact walk_at h.1.2 h.2 j q
    · subst q
      have f := h.1.1.2.2
      exact isI_t ⟨f.1, by have := f.2.1; omega⟩
theorem right_at {s : St} (h : rightF s = 0) : (∀ c ∈ s.undo, isI c.at_ = true) ∧ ∀ c ∈ s.redo, isI c.at_ = true := by
  obtain ⟨z1, z2, z3, z4, z5⟩ := right_zero h
  refine ⟨fun c hc => ?_, fun c hc => ?_⟩
  · obtain ⟨j, hj, rfl⟩ := List.getElem_of_mem hc
    have := walk_at z1 z4 j hj
    rw [getD_inv] at this
    have e : s.undo.getD j noCh = s.undo[j] := by simp [List.getD, List.getElem?_eq_getElem hj]
    rw [e] at this
    exact this
  · obtain ⟨j, hj, rfl⟩ := List.getElem_of_mem hc
    have := walk_at z1 z5 j hj
    have e : s.redo.getD j noCh = s.redo[j] := by simp [List.getD, List.getElem?_eq_getElem hj]
    rw [e] at this
    exact this
theorem isI_len {l : List Int} (h : l.length ≤ 100000) : isI ((encV l).length : Int) = true := isI_t ⟨by omega, by have := encV_le l; omega⟩
theorem right_W {s : St} (hs : s.ok) (h : rightF s = 0) : StW s := by
  obtain ⟨h1, h2, h3⟩ := right_scal h
  obtain ⟨a1, a2⟩ := right_at h
  obtain ⟨z1, z2, z3, z4, z5⟩ := right_zero h
  exact ⟨h1, isI_len hs.len, fun c hc => ⟨a1 c hc, (h2 c hc).1, (h2 c hc).2, isI_len (hs.undo c hc).gone, isI_len (hs.undo c hc).came⟩, fun c hc => ⟨a2 c hc, (h3 c hc).1, (h3 c hc).2, isI_len (hs.redo c hc).gone, isI_len (hs.redo c hc).came⟩, by omega, by omega⟩
theorem stF_B {n : Int} {s : St} (hn : isI n = true) (h : rightF s = 0) : stF n s = (stB n s, 0) := stF_ok hn h
end Go.Proofs.YtdpflafjfkooeaaGreatDoorG
namespace Go.Proofs.YtdpflafjfkooeaaGreatDoorG
open Go Go.RowKit Go.Proofs Go.Proofs.YtdpflafjfkooeaaGreatDoorG.Dec
set_option linter.unusedSimpArgs false
set_option linter.unusedVariables false
theorem DBY8 : type_of% (And.intro @List.length_map.{0,0} (And.intro @bs_len (And.intro @rn_len (And.intro @chs_len (And.intro @chs_cnt (And.intro @Int.sub_zero (And.intro @Int.toNat_natCast @Int.natCast_zero))))))) := ⟨@List.length_map.{0,0}, @bs_len, @rn_len, @chs_len, @chs_cnt, @Int.sub_zero, @Int.toNat_natCast, @Int.natCast_zero⟩
/-! ### a state is read into own rows -/
set_option maxRecDepth 10000 in
set_option maxHeartbeats 8000000 in
theorem rtextR (xs : List Int) (g : BytN 30000000000000 xs) (n : Int) (h0 : 0 ≤ n) {l rest : List Int} (h : readText n xs = .ok l rest) : CallR Tryz.prog 68 [(127, rdr xs)] [] [r0, i64 n] (.ret (.p (.one (.sr 1))) [(127, rdr rest)] [(1, 21, 1, rn l)]) := by
  have hb := g.bytes
  have hl := g.len
  have hb' : Bytes (xs.take n.toNat) := hb.take _
  have hl' : (xs.take n.toNat).length ≤ 30000000000000 := by rw [List.length_take]; omega
  unfold readText at h
  split at h
  · rename_i h1
    split at h
    · rename_i h2
      cases h
      refine fn_okR' T_ok (orc_ok _) mixed Tryz.func68 rfl (by kernel_rfl) (lv [[0, 1], [0, 5, 7], [0, 5, 7, 17], [0, 5], [0, 4]]) 21 rfl (by simp) (by simp [OutR.ok, X.all, PX.all, TV.res, TV.small, TV.lentR]) ?_
      simp only [lentL, rowsL, argsG, Nat.zero_add, Nat.reduceAdd, List.cons_append, List.nil_append]
      repeat' first
        | ((first
            | ((with_reducible refine vR_cons (by decide) ?_); generalize hk : KtR _ _ _ _ _ _ _ _ _ _ = k)
            | ((first
            | with_reducible refine vOps_cons' ?_
            | ((with_reducible apply orc_bj); (focus (exact rk (by omega) n h0; done)); (all_goals intro hb))
            | ((with_reducible refine Or.inr ?_); (with_reducible apply orc_bj); (focus (exact rk (by omega) n h0; done)); (all_goals intro hb))
            | ((with_reducible apply orc_i); (focus (exact decode_ok _ hb' hl'; done)))) <;> generalize hk : Kt _ _ _ _ _ _ _ _ _ = k)) <;> (simp only [Tryz.f68, lv, E1, E2, E5, ET, T, mvB, bxB, sxB, rxB, fwd, fwds, inv, mOk, EB, simprocAttr, DBY8]; (try simp (disch := omega) only [wrap_in, Int.toNat_natCast, tv_rn, tv_bst]); subst hk))
        | with_reducible first | refine Kt_p ?_ | refine Kt_i (by kernel_rfl) ?_ | refine Kr_f (by kernel_rfl) ?_
        | (with_reducible refine Kr_t ?_; simp only [List.length_append, List.length_cons, List.length_nil, Nat.reduceAdd, Nat.reduceSub, List.drop_succ_cons, List.drop_zero])
        | with_reducible first | refine vR_nil ?_ | refine KtR_i (by kernel_rfl) ?_ | refine KrR_i (by kernel_rfl) ?_ | refine vR_skip (by decide) ?_
        | ((with_reducible refine vB_i ?_ ?_) <;> intro _ <;> (first | (exfalso; omega) | (exact absurd trivial ‹¬True›) | (try dsimp only [])))
        | ((with_reducible refine vOps_nil' ?_); refine Kr_i (by kernel_rfl) ?_; generalize hk : plain _ _ = G; simp only [lv, E3, E2, E5, rawX, deadX, EB, simprocAttr, DBY8] at hk; subst hk)
        | with_reducible refine vSeq_i ?_
        | with_reducible first | refine vRegion_i (by kernel_rfl) ?_ | refine Kv_i ?_
        | ((with_reducible apply vStrK_i); (focus (rfl; done)))
        | ((with_reducible refine imp_i ?_); intro _)
        | with_reducible first | refine Ks_n ?_ | refine Ks_r ?_ | refine Ks_e ?_ | refine Kl_e ?_ | refine Kx_n ?_ | refine Kl_r ?_ | refine vRet_i ?_ | refine vSkip_i ?_ | refine vExit_i ?_ | refine vBlock_i ?_ | refine Ks_p ?_ | refine Kl_p ?_ | refine blk_p ?_ | exact Kb_p | refine vGoto_i ?_ | refine vLabel_i ?_ | refine Ks_g ?_ | refine Kl_g ?_ | refine blk_g ?_ | refine jmp_g ?_ | refine jmp_n ?_ | refine jmp_r ?_ | refine nog_n ?_ | refine nog_r ?_ | refine blk_n ?_ | refine blk_r ?_ | refine blk_e ?_ | refine blk_o (by decide) ?_ | refine cp_t ?_ | refine cp_f ?_
        | ((with_reducible apply vCond_x); (focus (simp only [lv, E1, E2, E5, ET, T, mvB, bxB, sxB, rxB, fwd, fwds, inv, mOk, EB, simprocAttr, DBY8]; with_reducible first | exact Eq.refl (bo true) | exact Eq.refl (bo false))))
        | ((with_reducible refine And.intro ?_ ?_); (focus (try omega)))
      all_goals first | (exfalso; omega) | skip
      first | refine KbR_r ?_ ?_ ?_ | refine KbR_n ?_ ?_ ?_
      · simp only [Tryz.f68, E4, E3, E2, E5, rawX, deadX, ET, T, EB, simprocAttr, DBY8]
      · exact ⟨.inr ⟨rfl, by kernel_rfl, rfl, rfl⟩, trivial⟩
      · exact ⟨rfl, trivial⟩
    · cases h
  · cases h
theorem caughtR_go {k : Nat} {bs : Boxes} {rs : RowL} {hs : List Nat} {w : World} {g : Gh} {out : OutR} (hk : CallR Tryz.prog k bs rs (lentA hs) out) (hlt : ∀ b, g.o b ≠ .other → b < w.heap.size) (hgr : GR w g.o) (hbx : ∀ k ty xs, bs[k]? = some (ty, xs) → BoxR w g k ty xs) (hrw : ∀ x ∈ rs, RowR w g x.1 x.2.1 x.2.2.1 x.2.2.2) :
    Calls Tryz.prog k ((hs).map fun h => Value.pointer (some ⟨g.bk h, 0, none⟩)).toArray (w.alloc (.cells #[.int .i64 0] 36)) fun e w' => out.post (w.alloc (.cells #[.int .i64 0] 36)) g e w' := by
  have hE : Ext w (w.alloc (.cells #[.int .i64 0] 36)) g g none fun _ => True := ⟨by simp, fun b hb _ => ⟨Below.heap_alloc _ _ _ (hlt b hb), rfl⟩, fun b hb => by have := hlt b hb; simp only [World.size_alloc]; omega, fun _ _ => rfl, fun _ _ => rfl⟩
  refine hk.calls _ _ g (fun b hb => by have := hlt b hb; simp only [World.size_alloc]; omega) (hE.gr hgr) ⟨by simp, fun j u x h1 h2 => ?_⟩ (fun k ty xs h => hE.boxr trivial (by simp) (fun _ _ => trivial) (hbx k ty xs h)) fun x hx => hE.rowr trivial (by simp) (hrw x hx)
  simp only [List.getElem?_map, Option.map_eq_some_iff] at h1 h2
  obtain ⟨i, e1, rfl⟩ := h1
  obtain ⟨i', e2, rfl⟩ := h2
  rw [e1] at e2
  cases e2
  rfl
theorem caughtR_ok {k : Nat} {bs bs' : Boxes} {rs rs' : RowL} {hs : List Nat} (hk : CallR Tryz.prog k bs rs (lentA hs) (.ret (.tup []) bs' rs')) : CallR Tryz.prog 65 bs rs [.p (.one (.cb k (hs)))] (.ret (i64 0) bs' rs') := by
  refine ⟨callable50, ⟨by simp [X.all, PX.all, TV.res], by simp [X.all, PX.all, TV.small], hk.resok.2.2⟩, fun w vs g hlt hgr hall hbx hrw => ?_⟩
  obtain ⟨v, rfl, hv⟩ := all2_one hall
  have hv' : v = .func (.func k) #[] ((hs).map fun h => Value.pointer (some ⟨g.bk h, 0, none⟩)).toArray := hv
  subst hv'
  have ht : g.o w.heap.size = .other := by rcases Decidable.em (g.o w.heap.size = .other) with h | h; exact h; exact absurd (hlt _ h) (by omega)
  refine (caught_ret k _ w (fun w2 => ∃ g', Fr (w.alloc (.cells #[.int .i64 0] 36)) w2 g.o g'.o ∧ (∀ b, g'.o b ≠ .other → b < w2.heap.size) ∧ (∀ k ty xs, bs'[k]? = some (ty, xs) → xs ≠ [] → BoxR w2 g' k ty xs ∧ g'.bk k = g.bk k) ∧ ∀ x ∈ rs', RowR w2 g' x.1 x.2.1 x.2.2.1 x.2.2.2) hk.callable ((caughtR_go hk hlt hgr hbx hrw).mono ?_)).mono ?_
  · rintro e w' ⟨v, g', rfl, hf, h1, ⟨us, rfl, hx⟩, h3, h4⟩
    obtain ⟨q1, q2, q3⟩ := caught_cell hf ht
    refine ⟨?_, q1, q2, g', hf, h1, h3, h4⟩
    have : us.toList = [] := by cases hh : us.toList with
      | nil => rfl
      | cons a b => have := hx.1; simp [hh] at this
    rw [show us = #[] from Array.toList_eq_nil_iff.1 this]
  · rintro e w' ⟨rfl, w2, ⟨g', hf, h1, h3, h4⟩, rfl⟩
    obtain ⟨q1, q2, q3⟩ := caught_cell hf ht
    have hB := But.set w2 w.heap.size (.int .i64 0)
    have hE : Ext w2 (w2.setCell ⟨w.heap.size, 0, none⟩ (.int .i64 0)) g' g' none fun _ => True := ⟨Nat.le_of_eq hB.size.symm, fun b hb _ => ⟨hB.blk b fun h => hb (h ▸ q3), rfl⟩, fun b hb => by rw [hB.size]; exact h1 b hb, fun _ _ => rfl, fun _ _ => rfl⟩
    exact ⟨_, g', rfl, caught_fr hf hB, fun b hb => by rw [hB.size]; exact h1 b hb, SVR.raw _ rfl, fun k ty xs hk hne => ⟨hE.boxr trivial (by simp) (fun _ _ => trivial) (h3 k ty xs hk hne).1, (h3 k ty xs hk hne).2⟩, fun x hx => hE.rowr trivial (by simp) (h4 x hx)⟩
set_option maxRecDepth 10000 in
set_option maxHeartbeats 16000000 in
theorem rst1R (xs : List Int) (g : BytN 30000000000000 xs) (c : Int) (s : St) (rest : List Int) (h : readSt xs = .ok (c, s) rest) : CallR Tryz.prog 66 [pbox, cbox 0, (27, [.sr 4, .sr 5, .sr 6]), (127, rdr xs)] [(4, 21, 1, []), (5, 47, 3, []), (6, 47, 3, [])] (lentA [0, 1, 2])
    (.ret (.tup []) [(0, []), cbox c, (27, [.sr 4, .v (.sl 3 (chs s.undo)), .v (.sl 3 (chs s.redo))]), (0, [])] [(4, 21, 1, rn s.text)]) := by
  refine fn_okR' T_ok (orc_ok _) mixed Tryz.func66 rfl (by kernel_rfl) (lv [[0, 1, 2], [0, 1, 2], [0, 1, 2], [0, 1, 2], [0, 1, 2]]) 18 rfl (by simp) (by simp [OutR.ok, X.all, PX.all, TV.res, TV.small, TV.lentR]) ?_
  simp only [lentL, rowsL, lentA, List.map, argsG, Nat.zero_add, Nat.reduceAdd, List.cons_append, List.nil_append]
  unfold readSt at h
  obtain ⟨a1, r1, q1, h⟩ := RR.bind_ok h
  obtain ⟨a2, r2, q2, h⟩ := RR.bind_ok h
  obtain ⟨a3, r3, q3, h⟩ := RR.bind_ok h
  obtain ⟨a4, r4, q4, h⟩ := RR.bind_ok h
  obtain ⟨a5, r5, q5, h⟩ := RR.bind_ok h
  obtain ⟨a6, r6, q6, h⟩ := RR.bind_ok h
  cases h
  have g1 := num_good q1 g
  have g2 := num_good q2 g1
  have g3 := text_good q3 g2
  have g4 := chs_good q4 g3
  have g5 := chs_good q5 g4
  have c1 := rnumG xs g
  have c2 := rnumG r1 g1
  have c3 := rtextR r2 g2 a2 (num_nn q2 g1) q3
  have c4 := rchsG r3 g3
  have c5 := rchsG r4 g4
  have c6 := rend_ok r5
  rw [q1] at c1
  rw [q2] at c2
  rw [q4] at c4
  rw [q5] at c5
  rw [q6] at c6
  simp only [outR] at c1 c2 c4 c5 c6
  repeat' first
    | ((first
        | ((with_reducible refine vR_cons (by decide) ?_); generalize hk : KtR _ _ _ _ _ _ _ _ _ _ = k)
        | ((first
        | with_reducible refine vOps_cons' ?_
        | ((with_reducible apply orc_bc); (focus (exact c1; done)))
        | ((with_reducible refine Or.inr ?_); (with_reducible apply orc_bc); (focus (exact c1; done)))
        | ((with_reducible apply orc_bc); (focus (exact c2; done)))
        | ((with_reducible refine Or.inr ?_); (with_reducible apply orc_bc); (focus (exact c2; done)))
        | ((with_reducible apply orc_rc); (focus (exact c3; done)))
        | ((with_reducible refine Or.inl ?_); (with_reducible apply orc_rc); (focus (exact c3; done)))
        | ((with_reducible apply orc_bc); (focus (exact c4; done)))
        | ((with_reducible refine Or.inr ?_); (with_reducible apply orc_bc); (focus (exact c4; done)))
        | ((with_reducible apply orc_bc); (focus (exact c5; done)))
        | ((with_reducible refine Or.inr ?_); (with_reducible apply orc_bc); (focus (exact c5; done)))
        | ((with_reducible apply orc_bc); (focus (exact c6; done)))
        | ((with_reducible refine Or.inr ?_); (with_reducible apply orc_bc); (focus (exact c6; done)))) <;> generalize hk : Kt _ _ _ _ _ _ _ _ _ = k)) <;> (simp only [Tryz.f66, lv, E1, E2, E5, ET, T, mvB, bxB, sxB, rxB, fwd, fwds, inv, mOk, EB, simprocAttr, DBY8]; (try simp (disch := omega) only [wrap_in, Int.toNat_natCast, tv_rn, tv_bst]); subst hk))
    | with_reducible first | refine Kt_p ?_ | refine Kt_i (by kernel_rfl) ?_ | refine Kr_f (by kernel_rfl) ?_
    | (with_reducible refine Kr_t ?_; simp only [List.length_append, List.length_cons, List.length_nil, Nat.reduceAdd, Nat.reduceSub, List.drop_succ_cons, List.drop_zero])
    | with_reducible first | refine vR_nil ?_ | refine KtR_i (by kernel_rfl) ?_ | refine KrR_i (by kernel_rfl) ?_ | refine vR_skip (by decide) ?_
    | ((with_reducible refine vB_i ?_ ?_) <;> intro _ <;> (first | (exfalso; omega) | (exact absurd trivial ‹¬True›) | (try dsimp only [])))
    | ((with_reducible refine vOps_nil' ?_); refine Kr_i (by kernel_rfl) ?_; generalize hk : plain _ _ = G; simp only [lv, E3, E2, E5, rawX, deadX, EB, simprocAttr, DBY8] at hk; subst hk)
    | with_reducible refine vSeq_i ?_
    | with_reducible first | refine vRegion_i (by kernel_rfl) ?_ | refine Kv_i ?_
    | ((with_reducible apply vStrK_i); (focus (rfl; done)))
    | ((with_reducible refine imp_i ?_); intro _)
    | with_reducible first | refine Ks_n ?_ | refine Ks_r ?_ | refine Ks_e ?_ | refine Kl_e ?_ | refine Kx_n ?_ | refine Kl_r ?_ | refine vRet_i ?_ | refine vSkip_i ?_ | refine vExit_i ?_ | refine vBlock_i ?_ | refine Ks_p ?_ | refine Kl_p ?_ | refine blk_p ?_ | exact Kb_p | refine vGoto_i ?_ | refine vLabel_i ?_ | refine Ks_g ?_ | refine Kl_g ?_ | refine blk_g ?_ | refine jmp_g ?_ | refine jmp_n ?_ | refine jmp_r ?_ | refine nog_n ?_ | refine nog_r ?_ | refine blk_n ?_ | refine blk_r ?_ | refine blk_e ?_ | refine blk_o (by decide) ?_ | refine cp_t ?_ | refine cp_f ?_
    | ((with_reducible apply vCond_x); (focus (simp only [lv, E1, E2, E5, ET, T, mvB, bxB, sxB, rxB, fwd, fwds, inv, mOk, EB, simprocAttr, DBY8]; with_reducible first | exact Eq.refl (bo true) | exact Eq.refl (bo false))))
    | ((with_reducible refine And.intro ?_ ?_); (focus (try omega)))
  first | refine KbR_r ?_ ?_ ?_ | refine KbR_n ?_ ?_ ?_
  · simp only [Tryz.f66, E4, E3, E2, E5, rawX, deadX, ET, T, EB, simprocAttr, DBY8]
  · exact ⟨.inl rfl, .inr ⟨rfl, by kernel_rfl, rfl, rfl⟩, .inr ⟨rfl, by kernel_rfl, rfl, rfl⟩, .inl rfl, trivial⟩
  · exact ⟨rfl, trivial⟩
end Go.Proofs.YtdpflafjfkooeaaGreatDoorG
