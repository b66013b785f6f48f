/- YtdpflafjfkooeaaGreatDoorZ15: a part of the proof, joined of its texts. -/
import Derived.Test.YtdpflafjfkooeaaGreatDoorZ14
namespace Go.Proofs.YtdpflafjfkooeaaGreatDoorG
open Go Go.RowKit Go.Proofs
set_option linter.unusedSimpArgs false
set_option linter.unusedVariables false
theorem DBA8 : type_of% (And.intro @rn_len (And.intro @chs_len (And.intro @chs_cnt (And.intro @List.length_map.{0,0} (And.intro @cut_rn (And.intro @take_drop_len (And.intro @List.length_append.{0} (And.intro @List.length_take.{0} (And.intro @List.length_drop.{0} @Int.sub_zero))))))))) := ⟨@rn_len, @chs_len, @chs_cnt, @List.length_map.{0,0}, @cut_rn, @take_drop_len, @List.length_append.{0}, @List.length_take.{0}, @List.length_drop.{0}, @Int.sub_zero⟩
set_option maxRecDepth 10000 in
set_option maxHeartbeats 4000000 in
theorem refRight_ok (s : St) (hs : s.ok) : CallOk Tryz.prog 43 [s.x] (i64 (rightF s)) [] true := by
  obtain ⟨ht, hr, hu, hd, hul, hdl⟩ := hs
  refine fn_ok' T_ok (orc_ok _) mixed Tryz.func43 rfl (by kernel_rfl) (lv [[1], [1, 20], [2], [1, 24], [2], [1, 3], [1, 3, 4], [1, 3, 4, 5], [1, 3, 4, 5, 35], [1, 3, 4, 5], [1, 3, 4, 5, 1000003], [1, 3, 4], [1, 3, 4, 6], [1, 3, 4, 6, 59], [1, 3, 4, 6], [1, 3, 4, 6, 1000003], [73], [2], [2]]) 74 rfl (by simp) rfl (by simp [X.all, PX.all, TV.rawR, SV.isRaw]) ?_
  simp only [argsG, Nat.zero_add, Nat.reduceAdd, St.x]
  repeat' first
    | ((first
        | ((with_reducible refine vR_cons (by decide) ?_); generalize hk : KtR _ _ _ _ _ _ _ _ _ _ = k)
        | ((first
        | with_reducible refine vOps_cons' ?_
        | ((with_reducible apply orc_b); (focus (with_reducible exact scal1_ok _ hr (by omega); done)); (all_goals (intro hb; (try simp only [decide_eq_true_eq, decide_eq_false_iff_not, Bool.not_eq_true', Bool.not_eq_false', Bool.and_eq_true, Decidable.not_not] at hb))))) <;> generalize hk : Kt _ _ _ _ _ _ _ _ _ = k)) <;> (simp only [Tryz.f43, lv, E1, E2, E5, ET, T, mvB, bxB, sxB, rxB, fwd, fwds, inv, mOk, EB, simprocAttr, DBA8, Ch.x, Ch.inv, Opn.x, St.x, ← rn_app]; (try simp (disch := omega) only [wrap_in, Int.toNat_natCast, tv_rn, tv_ch0, tv_ch1, tv_ch2]); subst hk))
    | with_reducible first | refine Kt_p ?_ | refine Kt_i (by kernel_rfl) ?_ | refine Kr_f (by kernel_rfl) ?_
    | (with_reducible refine Kr_t ?_; simp only [List.length_append, List.length_cons, List.length_nil, Nat.reduceAdd, Nat.reduceSub, List.drop_succ_cons, List.drop_zero])
    | with_reducible first | refine vR_nil ?_ | refine KtR_i (by kernel_rfl) ?_ | refine KrR_i (by kernel_rfl) ?_ | refine vR_skip (by decide) ?_
    | ((with_reducible refine vB_i ?_ ?_) <;> intro _ <;> (first | (exfalso; omega) | (exact absurd trivial ‹¬True›) | (try dsimp only [])))
    | ((with_reducible refine vOps_nil' ?_); refine Kr_i (by kernel_rfl) ?_; generalize hk : plain _ _ = G; simp only [lv, E3, E2, E5, rawX, deadX, EB, simprocAttr, DBA8, Ch.x, Ch.inv, Opn.x, St.x, ← rn_app] at hk; subst hk)
    | with_reducible refine vSeq_i ?_
    | with_reducible first | refine vRegion_i (by kernel_rfl) ?_ | refine Kv_i ?_
    | ((with_reducible apply vStrK_i); (focus (rfl; done)))
    | ((with_reducible refine imp_i ?_); intro _)
    | with_reducible first | refine Ks_n ?_ | refine Ks_r ?_ | refine Ks_e ?_ | refine Kl_e ?_ | refine Kx_n ?_ | refine Kl_r ?_ | refine vRet_i ?_ | refine vSkip_i ?_ | refine vExit_i ?_ | refine vBlock_i ?_ | refine Ks_p ?_ | refine Kl_p ?_ | refine blk_p ?_ | exact Kb_p | refine vGoto_i ?_ | refine vLabel_i ?_ | refine Ks_g ?_ | refine Kl_g ?_ | refine blk_g ?_ | refine jmp_g ?_ | refine jmp_n ?_ | refine jmp_r ?_ | refine nog_n ?_ | refine nog_r ?_ | refine blk_n ?_ | refine blk_r ?_ | refine blk_e ?_ | refine blk_o (by decide) ?_ | refine cp_t ?_ | refine cp_f ?_
    | ((with_reducible apply vCond_x); (focus (simp only [lv, E1, E2, E5, ET, T, mvB, bxB, sxB, rxB, fwd, fwds, inv, mOk, EB, simprocAttr, DBA8, Ch.x, Ch.inv, Opn.x, St.x, ← rn_app]; with_reducible first | exact Eq.refl (bo true) | exact Eq.refl (bo false))))
    | ((with_reducible refine And.intro ?_ ?_); (focus (try omega)))
  · refine Kf_r ?_
    simp only [Tryz.f43, E4, E3, E2, E5, rawX, deadX, ET, T, EB, simprocAttr, DBA8, Ch.x, Ch.inv, Opn.x, St.x, ← rn_app, X.p.injEq, X.tup.injEq, PX.one.injEq, PX.agg.injEq, TV.v.injEq, TV.sr.injEq, SV.raw.injEq, SV.sl.injEq, Value.bool.injEq, Value.int.injEq, List.cons.injEq, Prod.mk.injEq, true_and, and_true, and_self]
    unfold rightF; rw [if_pos (by omega)]
  · refine Kf_r ?_
    simp only [Tryz.f43, E4, E3, E2, E5, rawX, deadX, ET, T, EB, simprocAttr, DBA8, Ch.x, Ch.inv, Opn.x, St.x, ← rn_app, X.p.injEq, X.tup.injEq, PX.one.injEq, PX.agg.injEq, TV.v.injEq, TV.sr.injEq, SV.raw.injEq, SV.sl.injEq, Value.bool.injEq, Value.int.injEq, List.cons.injEq, Prod.mk.injEq, true_and, and_true, and_self]
    unfold rightF; rw [if_pos (by omega)]
  · rename_i h1 h2
    generalize hQ : GEx.blk 0 _ = Q
    have key : ∀ (cur : List Int) (ok : Bool) (i : Int), walkN (s.undo.map Ch.inv) s.undo.length s.text = ok →
        Q (.exit 0) [(.t 1, .t (.p (.one (.pr 0 0)))), (.t 3, .t (sl (rn cur))), (.t 4, .t (bo ok)), (.t 5, .t (i64 i)), (.t 35, .t (bo false)), (.box 0, .box 27 [.v (.sl 1 (rn s.text)), .v (.sl 3 (chs s.undo)), .v (.sl 3 (chs s.redo))])] := by
      intro cur ok i hw
      subst hQ
      repeat' first
        | ((first
            | ((with_reducible refine vR_cons (by decide) ?_); generalize hk : KtR _ _ _ _ _ _ _ _ _ _ = k)
            | ((first
            | with_reducible refine vOps_cons' ?_) <;> generalize hk : Kt _ _ _ _ _ _ _ _ _ = k)) <;> (simp only [Tryz.f43, lv, E1, E2, E5, ET, T, mvB, bxB, sxB, rxB, fwd, fwds, inv, mOk, EB, simprocAttr, DBA8, Ch.x, Ch.inv, Opn.x, St.x, ← rn_app]; (try simp (disch := omega) only [wrap_in, Int.toNat_natCast, tv_rn, tv_ch0, tv_ch1, tv_ch2]); subst hk))
        | with_reducible first | refine Kt_p ?_ | refine Kt_i (by kernel_rfl) ?_ | refine Kr_f (by kernel_rfl) ?_
        | (with_reducible refine Kr_t ?_; simp only [List.length_append, List.length_cons, List.length_nil, Nat.reduceAdd, Nat.reduceSub, List.drop_succ_cons, List.drop_zero])
        | with_reducible first | refine vR_nil ?_ | refine KtR_i (by kernel_rfl) ?_ | refine KrR_i (by kernel_rfl) ?_ | refine vR_skip (by decide) ?_
        | ((with_reducible refine vB_i ?_ ?_) <;> intro _ <;> (first | (exfalso; omega) | (exact absurd trivial ‹¬True›) | (try dsimp only [])))
        | ((with_reducible refine vOps_nil' ?_); refine Kr_i (by kernel_rfl) ?_; generalize hk : plain _ _ = G; simp only [lv, E3, E2, E5, rawX, deadX, EB, simprocAttr, DBA8, Ch.x, Ch.inv, Opn.x, St.x, ← rn_app] at hk; subst hk)
        | with_reducible refine vSeq_i ?_
        | with_reducible first | refine vRegion_i (by kernel_rfl) ?_ | refine Kv_i ?_
        | ((with_reducible apply vStrK_i); (focus (rfl; done)))
        | ((with_reducible refine imp_i ?_); intro _)
        | with_reducible first | refine Ks_n ?_ | refine Ks_r ?_ | refine Ks_e ?_ | refine Kl_e ?_ | refine Kx_n ?_ | refine Kl_r ?_ | refine vRet_i ?_ | refine vSkip_i ?_ | refine vExit_i ?_ | refine vBlock_i ?_ | refine Ks_p ?_ | refine Kl_p ?_ | refine blk_p ?_ | exact Kb_p | refine vGoto_i ?_ | refine vLabel_i ?_ | refine Ks_g ?_ | refine Kl_g ?_ | refine blk_g ?_ | refine jmp_g ?_ | refine jmp_n ?_ | refine jmp_r ?_ | refine nog_n ?_ | refine nog_r ?_ | refine blk_n ?_ | refine blk_r ?_ | refine blk_e ?_ | refine blk_o (by decide) ?_ | refine cp_t ?_ | refine cp_f ?_
        | ((with_reducible apply vCond_x); (focus (simp only [lv, E1, E2, E5, ET, T, mvB, bxB, sxB, rxB, fwd, fwds, inv, mOk, EB, simprocAttr, DBA8, Ch.x, Ch.inv, Opn.x, St.x, ← rn_app]; with_reducible first | exact Eq.refl (bo true) | exact Eq.refl (bo false))))
        | ((with_reducible refine And.intro ?_ ?_); (focus (try omega)))
      generalize hQ : GEx.blk 2 _ = Q
      have key2 : ∀ (cur : List Int) (ok2 : Bool) (i : Int), (ok && walkN s.redo s.redo.length s.text) = ok2 →
          Q (.exit 2) [(.t 1, .t (.p (.one (.pr 0 0)))), (.t 3, .t (sl (rn cur))), (.t 4, .t (bo ok2)), (.t 6, .t (i64 i)), (.t 59, .t (bo false)), (.box 0, .box 27 [.v (.sl 1 (rn s.text)), .v (.sl 3 (chs s.undo)), .v (.sl 3 (chs s.redo))])] := by
        intro cur2 ok2 i2 hw2
        subst hQ
        cases ok2
        all_goals
          repeat' first
            | ((first
                | ((with_reducible refine vR_cons (by decide) ?_); generalize hk : KtR _ _ _ _ _ _ _ _ _ _ = k)
                | ((first
                | with_reducible refine vOps_cons' ?_) <;> generalize hk : Kt _ _ _ _ _ _ _ _ _ = k)) <;> (simp only [Tryz.f43, lv, E1, E2, E5, ET, T, mvB, bxB, sxB, rxB, fwd, fwds, inv, mOk, EB, simprocAttr, DBA8, Ch.x, Ch.inv, Opn.x, St.x, ← rn_app]; (try simp (disch := omega) only [wrap_in, Int.toNat_natCast, tv_rn, tv_ch0, tv_ch1, tv_ch2]); subst hk))
            | with_reducible first | refine Kt_p ?_ | refine Kt_i (by kernel_rfl) ?_ | refine Kr_f (by kernel_rfl) ?_
            | (with_reducible refine Kr_t ?_; simp only [List.length_append, List.length_cons, List.length_nil, Nat.reduceAdd, Nat.reduceSub, List.drop_succ_cons, List.drop_zero])
            | with_reducible first | refine vR_nil ?_ | refine KtR_i (by kernel_rfl) ?_ | refine KrR_i (by kernel_rfl) ?_ | refine vR_skip (by decide) ?_
            | ((with_reducible refine vB_i ?_ ?_) <;> intro _ <;> (first | (exfalso; omega) | (exact absurd trivial ‹¬True›) | (try dsimp only [])))
            | ((with_reducible refine vOps_nil' ?_); refine Kr_i (by kernel_rfl) ?_; generalize hk : plain _ _ = G; simp only [lv, E3, E2, E5, rawX, deadX, EB, simprocAttr, DBA8, Ch.x, Ch.inv, Opn.x, St.x, ← rn_app] at hk; subst hk)
            | with_reducible refine vSeq_i ?_
            | with_reducible first | refine vRegion_i (by kernel_rfl) ?_ | refine Kv_i ?_
            | ((with_reducible apply vStrK_i); (focus (rfl; done)))
            | ((with_reducible refine imp_i ?_); intro _)
            | with_reducible first | refine Ks_n ?_ | refine Ks_r ?_ | refine Ks_e ?_ | refine Kl_e ?_ | refine Kx_n ?_ | refine Kl_r ?_ | refine vRet_i ?_ | refine vSkip_i ?_ | refine vExit_i ?_ | refine vBlock_i ?_ | refine Ks_p ?_ | refine Kl_p ?_ | refine blk_p ?_ | exact Kb_p | refine vGoto_i ?_ | refine vLabel_i ?_ | refine Ks_g ?_ | refine Kl_g ?_ | refine blk_g ?_ | refine jmp_g ?_ | refine jmp_n ?_ | refine jmp_r ?_ | refine nog_n ?_ | refine nog_r ?_ | refine blk_n ?_ | refine blk_r ?_ | refine blk_e ?_ | refine blk_o (by decide) ?_ | refine cp_t ?_ | refine cp_f ?_
            | ((with_reducible apply vCond_x); (focus (simp only [lv, E1, E2, E5, ET, T, mvB, bxB, sxB, rxB, fwd, fwds, inv, mOk, EB, simprocAttr, DBA8, Ch.x, Ch.inv, Opn.x, St.x, ← rn_app]; with_reducible first | exact Eq.refl (bo true) | exact Eq.refl (bo false))))
            | ((with_reducible refine And.intro ?_ ?_); (focus (try omega)))
          refine Kf_r ?_
          simp only [Tryz.f43, E4, E3, E2, E5, rawX, deadX, ET, T, EB, simprocAttr, DBA8, Ch.x, Ch.inv, Opn.x, St.x, ← rn_app, X.p.injEq, X.tup.injEq, PX.one.injEq, PX.agg.injEq, TV.v.injEq, TV.sr.injEq, SV.raw.injEq, SV.sl.injEq, Value.bool.injEq, Value.int.injEq, List.cons.injEq, Prod.mk.injEq, true_and, and_true, and_self]
          unfold rightF
          rw [if_neg (by omega), if_neg (fun h => h hb), hw, hw2]
          rfl
      refine vLoop_s (fun z : Nat × List Int × Bool => [(.t 1, .t (.p (.one (.pr 0 0)))), (.t 3, .t (sl (rn z.2.1))), (.t 4, .t (bo z.2.2)), (.t 6, .t (i64 ((z.1 : Int) - 1))), (.box 0, .box 27 [.v (.sl 1 (rn s.text)), .v (.sl 3 (chs s.undo)), .v (.sl 3 (chs s.redo))])])
        (fun z => z.1 ≤ s.redo.length ∧ (z.2.2 = true → z.2.1.length ≤ 100000) ∧ (ok && walkN s.redo s.redo.length s.text) = (z.2.2 && walkN s.redo z.1 z.2.1)) (fun z => z.1) (s.redo.length, s.text, ok) ⟨Nat.le_refl _, fun _ => ht, rfl⟩ rfl ?_
      rintro ⟨n, cur, b⟩ ⟨hn, hc, hw3⟩
      dsimp only at hn hc hw3 ⊢
      cases b
      · skip
        repeat' first
          | ((first
              | ((with_reducible refine vR_cons (by decide) ?_); generalize hk : KtR _ _ _ _ _ _ _ _ _ _ = k)
              | ((first
              | with_reducible refine vOps_cons' ?_) <;> generalize hk : Kt _ _ _ _ _ _ _ _ _ = k)) <;> (simp only [Tryz.f43, lv, E1, E2, E5, ET, T, mvB, bxB, sxB, rxB, fwd, fwds, inv, mOk, EB, simprocAttr, DBA8, Ch.x, Ch.inv, Opn.x, St.x, ← rn_app]; (try simp (disch := omega) only [wrap_in, Int.toNat_natCast, tv_rn, tv_ch0, tv_ch1, tv_ch2]); subst hk))
          | with_reducible first | refine Kt_p ?_ | refine Kt_i (by kernel_rfl) ?_ | refine Kr_f (by kernel_rfl) ?_
          | (with_reducible refine Kr_t ?_; simp only [List.length_append, List.length_cons, List.length_nil, Nat.reduceAdd, Nat.reduceSub, List.drop_succ_cons, List.drop_zero])
          | with_reducible first | refine vR_nil ?_ | refine KtR_i (by kernel_rfl) ?_ | refine KrR_i (by kernel_rfl) ?_ | refine vR_skip (by decide) ?_
          | ((with_reducible refine vB_i ?_ ?_) <;> intro _ <;> (first | (exfalso; omega) | (exact absurd trivial ‹¬True›) | (try dsimp only [])))
          | ((with_reducible refine vOps_nil' ?_); refine Kr_i (by kernel_rfl) ?_; generalize hk : plain _ _ = G; simp only [lv, E3, E2, E5, rawX, deadX, EB, simprocAttr, DBA8, Ch.x, Ch.inv, Opn.x, St.x, ← rn_app] at hk; subst hk)
          | with_reducible refine vSeq_i ?_
          | with_reducible first | refine vRegion_i (by kernel_rfl) ?_ | refine Kv_i ?_
          | ((with_reducible apply vStrK_i); (focus (rfl; done)))
          | ((with_reducible refine imp_i ?_); intro _)
          | with_reducible first | refine Ks_n ?_ | refine Ks_r ?_ | refine Ks_e ?_ | refine Kl_e ?_ | refine Kx_n ?_ | refine Kl_r ?_ | refine vRet_i ?_ | refine vSkip_i ?_ | refine vExit_i ?_ | refine vBlock_i ?_ | refine Ks_p ?_ | refine Kl_p ?_ | refine blk_p ?_ | exact Kb_p | refine vGoto_i ?_ | refine vLabel_i ?_ | refine Ks_g ?_ | refine Kl_g ?_ | refine blk_g ?_ | refine jmp_g ?_ | refine jmp_n ?_ | refine jmp_r ?_ | refine nog_n ?_ | refine nog_r ?_ | refine blk_n ?_ | refine blk_r ?_ | refine blk_e ?_ | refine blk_o (by decide) ?_ | refine cp_t ?_ | refine cp_f ?_
          | ((with_reducible apply vCond_x); (focus (simp only [lv, E1, E2, E5, ET, T, mvB, bxB, sxB, rxB, fwd, fwds, inv, mOk, EB, simprocAttr, DBA8, Ch.x, Ch.inv, Opn.x, St.x, ← rn_app]; with_reducible first | exact Eq.refl (bo true) | exact Eq.refl (bo false))))
          | ((with_reducible refine And.intro ?_ ?_); (focus (try omega)))
        all_goals exact key2 _ _ _ (by rw [hw3]; rfl)
      rcases n with _ | m
      · skip
        repeat' first
          | ((first
              | ((with_reducible refine vR_cons (by decide) ?_); generalize hk : KtR _ _ _ _ _ _ _ _ _ _ = k)
              | ((first
              | with_reducible refine vOps_cons' ?_) <;> generalize hk : Kt _ _ _ _ _ _ _ _ _ = k)) <;> (simp only [Tryz.f43, lv, E1, E2, E5, ET, T, mvB, bxB, sxB, rxB, fwd, fwds, inv, mOk, EB, simprocAttr, DBA8, Ch.x, Ch.inv, Opn.x, St.x, ← rn_app]; (try simp (disch := omega) only [wrap_in, Int.toNat_natCast, tv_rn, tv_ch0, tv_ch1, tv_ch2]); subst hk))
          | with_reducible first | refine Kt_p ?_ | refine Kt_i (by kernel_rfl) ?_ | refine Kr_f (by kernel_rfl) ?_
          | (with_reducible refine Kr_t ?_; simp only [List.length_append, List.length_cons, List.length_nil, Nat.reduceAdd, Nat.reduceSub, List.drop_succ_cons, List.drop_zero])
          | with_reducible first | refine vR_nil ?_ | refine KtR_i (by kernel_rfl) ?_ | refine KrR_i (by kernel_rfl) ?_ | refine vR_skip (by decide) ?_
          | ((with_reducible refine vB_i ?_ ?_) <;> intro _ <;> (first | (exfalso; omega) | (exact absurd trivial ‹¬True›) | (try dsimp only [])))
          | ((with_reducible refine vOps_nil' ?_); refine Kr_i (by kernel_rfl) ?_; generalize hk : plain _ _ = G; simp only [lv, E3, E2, E5, rawX, deadX, EB, simprocAttr, DBA8, Ch.x, Ch.inv, Opn.x, St.x, ← rn_app] at hk; subst hk)
          | with_reducible refine vSeq_i ?_
          | with_reducible first | refine vRegion_i (by kernel_rfl) ?_ | refine Kv_i ?_
          | ((with_reducible apply vStrK_i); (focus (rfl; done)))
          | ((with_reducible refine imp_i ?_); intro _)
          | with_reducible first | refine Ks_n ?_ | refine Ks_r ?_ | refine Ks_e ?_ | refine Kl_e ?_ | refine Kx_n ?_ | refine Kl_r ?_ | refine vRet_i ?_ | refine vSkip_i ?_ | refine vExit_i ?_ | refine vBlock_i ?_ | refine Ks_p ?_ | refine Kl_p ?_ | refine blk_p ?_ | exact Kb_p | refine vGoto_i ?_ | refine vLabel_i ?_ | refine Ks_g ?_ | refine Kl_g ?_ | refine blk_g ?_ | refine jmp_g ?_ | refine jmp_n ?_ | refine jmp_r ?_ | refine nog_n ?_ | refine nog_r ?_ | refine blk_n ?_ | refine blk_r ?_ | refine blk_e ?_ | refine blk_o (by decide) ?_ | refine cp_t ?_ | refine cp_f ?_
          | ((with_reducible apply vCond_x); (focus (simp only [lv, E1, E2, E5, ET, T, mvB, bxB, sxB, rxB, fwd, fwds, inv, mOk, EB, simprocAttr, DBA8, Ch.x, Ch.inv, Opn.x, St.x, ← rn_app]; with_reducible first | exact Eq.refl (bo true) | exact Eq.refl (bo false))))
          | ((with_reducible refine And.intro ?_ ?_); (focus (try omega)))
        all_goals exact key2 _ _ _ (by rw [hw3]; rfl)
      · rw [show (((m + 1 : Nat) : Int) - 1) = (m : Int) by omega]
        have hcm : (s.redo.getD m noCh).ok := hd _ (mem_getD (by omega))
        repeat' first
          | ((first
              | ((with_reducible refine vR_cons (by decide) ?_); generalize hk : KtR _ _ _ _ _ _ _ _ _ _ = k)
              | ((first
              | with_reducible refine vOps_cons' ?_
              | ((with_reducible apply orc_i); (focus (exact refDone_ok' cur (s.redo.getD m noCh) (hc rfl) hcm; done)))) <;> generalize hk : Kt _ _ _ _ _ _ _ _ _ = k)) <;> (simp only [Tryz.f43, lv, E1, E2, E5, ET, T, mvB, bxB, sxB, rxB, fwd, fwds, inv, mOk, EB, simprocAttr, DBA8, Ch.x, Ch.inv, Opn.x, St.x, ← rn_app]; (try simp (disch := omega) only [wrap_in, Int.toNat_natCast, tv_rn, tv_ch0, tv_ch1, tv_ch2]); subst hk))
          | with_reducible first | refine Kt_p ?_ | refine Kt_i (by kernel_rfl) ?_ | refine Kr_f (by kernel_rfl) ?_
          | (with_reducible refine Kr_t ?_; simp only [List.length_append, List.length_cons, List.length_nil, Nat.reduceAdd, Nat.reduceSub, List.drop_succ_cons, List.drop_zero])
          | with_reducible first | refine vR_nil ?_ | refine KtR_i (by kernel_rfl) ?_ | refine KrR_i (by kernel_rfl) ?_ | refine vR_skip (by decide) ?_
          | ((with_reducible refine vB_i ?_ ?_) <;> intro _ <;> (first | (exfalso; omega) | (exact absurd trivial ‹¬True›) | (try dsimp only [])))
          | ((with_reducible refine vOps_nil' ?_); refine Kr_i (by kernel_rfl) ?_; generalize hk : plain _ _ = G; simp only [lv, E3, E2, E5, rawX, deadX, EB, simprocAttr, DBA8, Ch.x, Ch.inv, Opn.x, St.x, ← rn_app] at hk; subst hk)
          | with_reducible refine vSeq_i ?_
          | with_reducible first | refine vRegion_i (by kernel_rfl) ?_ | refine Kv_i ?_
          | ((with_reducible apply vStrK_i); (focus (rfl; done)))
          | ((with_reducible refine imp_i ?_); intro _)
          | with_reducible first | refine Ks_n ?_ | refine Ks_r ?_ | refine Ks_e ?_ | refine Kl_e ?_ | refine Kx_n ?_ | refine Kl_r ?_ | refine vRet_i ?_ | refine vSkip_i ?_ | refine vExit_i ?_ | refine vBlock_i ?_ | refine Ks_p ?_ | refine Kl_p ?_ | refine blk_p ?_ | exact Kb_p | refine vGoto_i ?_ | refine vLabel_i ?_ | refine Ks_g ?_ | refine Kl_g ?_ | refine blk_g ?_ | refine jmp_g ?_ | refine jmp_n ?_ | refine jmp_r ?_ | refine nog_n ?_ | refine nog_r ?_ | refine blk_n ?_ | refine blk_r ?_ | refine blk_e ?_ | refine blk_o (by decide) ?_ | refine cp_t ?_ | refine cp_f ?_
          | ((with_reducible apply vCond_x); (focus (simp only [lv, E1, E2, E5, ET, T, mvB, bxB, sxB, rxB, fwd, fwds, inv, mOk, EB, simprocAttr, DBA8, Ch.x, Ch.inv, Opn.x, St.x, ← rn_app]; with_reducible first | exact Eq.refl (bo true) | exact Eq.refl (bo false))))
          | ((with_reducible refine And.intro ?_ ?_); (focus (try omega)))
        refine Kl_n ⟨(m, (if (s.redo.getD m noCh).good cur then (s.redo.getD m noCh).done cur else []), decide ((s.redo.getD m noCh).good cur ∧ ((s.redo.getD m noCh).done cur).length ≤ 4096)), ⟨by omega, walk_len, ?_⟩, by omega, ?_⟩
        · dsimp only
          rw [hw3, walk_step, Bool.true_and]
        · rfl
    refine vLoop_s (fun z : Nat × List Int × Bool => [(.t 1, .t (.p (.one (.pr 0 0)))), (.t 3, .t (sl (rn z.2.1))), (.t 4, .t (bo z.2.2)), (.t 5, .t (i64 ((z.1 : Int) - 1))), (.box 0, .box 27 [.v (.sl 1 (rn s.text)), .v (.sl 3 (chs s.undo)), .v (.sl 3 (chs s.redo))])])
      (fun z => z.1 ≤ s.undo.length ∧ (z.2.2 = true → z.2.1.length ≤ 100000) ∧ (true && walkN (s.undo.map Ch.inv) s.undo.length s.text) = (z.2.2 && walkN (s.undo.map Ch.inv) z.1 z.2.1)) (fun z => z.1) (s.undo.length, s.text, true) ⟨Nat.le_refl _, fun _ => ht, rfl⟩ rfl ?_
    rintro ⟨n, cur, b⟩ ⟨hn, hc, hw3⟩
    dsimp only at hn hc hw3 ⊢
    cases b
    · skip
      repeat' first
        | ((first
            | ((with_reducible refine vR_cons (by decide) ?_); generalize hk : KtR _ _ _ _ _ _ _ _ _ _ = k)
            | ((first
            | with_reducible refine vOps_cons' ?_) <;> generalize hk : Kt _ _ _ _ _ _ _ _ _ = k)) <;> (simp only [Tryz.f43, lv, E1, E2, E5, ET, T, mvB, bxB, sxB, rxB, fwd, fwds, inv, mOk, EB, simprocAttr, DBA8, Ch.x, Ch.inv, Opn.x, St.x, ← rn_app]; (try simp (disch := omega) only [wrap_in, Int.toNat_natCast, tv_rn, tv_ch0, tv_ch1, tv_ch2]); subst hk))
        | with_reducible first | refine Kt_p ?_ | refine Kt_i (by kernel_rfl) ?_ | refine Kr_f (by kernel_rfl) ?_
        | (with_reducible refine Kr_t ?_; simp only [List.length_append, List.length_cons, List.length_nil, Nat.reduceAdd, Nat.reduceSub, List.drop_succ_cons, List.drop_zero])
        | with_reducible first | refine vR_nil ?_ | refine KtR_i (by kernel_rfl) ?_ | refine KrR_i (by kernel_rfl) ?_ | refine vR_skip (by decide) ?_
        | ((with_reducible refine vB_i ?_ ?_) <;> intro _ <;> (first | (exfalso; omega) | (exact absurd trivial ‹¬True›) | (try dsimp only [])))
        | ((with_reducible refine vOps_nil' ?_); refine Kr_i (by kernel_rfl) ?_; generalize hk : plain _ _ = G; simp only [lv, E3, E2, E5, rawX, deadX, EB, simprocAttr, DBA8, Ch.x, Ch.inv, Opn.x, St.x, ← rn_app] at hk; subst hk)
        | with_reducible refine vSeq_i ?_
        | with_reducible first | refine vRegion_i (by kernel_rfl) ?_ | refine Kv_i ?_
        | ((with_reducible apply vStrK_i); (focus (rfl; done)))
        | ((with_reducible refine imp_i ?_); intro _)
        | with_reducible first | refine Ks_n ?_ | refine Ks_r ?_ | refine Ks_e ?_ | refine Kl_e ?_ | refine Kx_n ?_ | refine Kl_r ?_ | refine vRet_i ?_ | refine vSkip_i ?_ | refine vExit_i ?_ | refine vBlock_i ?_ | refine Ks_p ?_ | refine Kl_p ?_ | refine blk_p ?_ | exact Kb_p | refine vGoto_i ?_ | refine vLabel_i ?_ | refine Ks_g ?_ | refine Kl_g ?_ | refine blk_g ?_ | refine jmp_g ?_ | refine jmp_n ?_ | refine jmp_r ?_ | refine nog_n ?_ | refine nog_r ?_ | refine blk_n ?_ | refine blk_r ?_ | refine blk_e ?_ | refine blk_o (by decide) ?_ | refine cp_t ?_ | refine cp_f ?_
        | ((with_reducible apply vCond_x); (focus (simp only [lv, E1, E2, E5, ET, T, mvB, bxB, sxB, rxB, fwd, fwds, inv, mOk, EB, simprocAttr, DBA8, Ch.x, Ch.inv, Opn.x, St.x, ← rn_app]; with_reducible first | exact Eq.refl (bo true) | exact Eq.refl (bo false))))
        | ((with_reducible refine And.intro ?_ ?_); (focus (try omega)))
      all_goals exact key _ _ _ (by rw [← Bool.true_and (walkN (s.undo.map Ch.inv) s.undo.length s.text), hw3]; rfl)
    rcases n with _ | m
    · skip
      repeat' first
        | ((first
            | ((with_reducible refine vR_cons (by decide) ?_); generalize hk : KtR _ _ _ _ _ _ _ _ _ _ = k)
            | ((first
            | with_reducible refine vOps_cons' ?_) <;> generalize hk : Kt _ _ _ _ _ _ _ _ _ = k)) <;> (simp only [Tryz.f43, lv, E1, E2, E5, ET, T, mvB, bxB, sxB, rxB, fwd, fwds, inv, mOk, EB, simprocAttr, DBA8, Ch.x, Ch.inv, Opn.x, St.x, ← rn_app]; (try simp (disch := omega) only [wrap_in, Int.toNat_natCast, tv_rn, tv_ch0, tv_ch1, tv_ch2]); subst hk))
        | with_reducible first | refine Kt_p ?_ | refine Kt_i (by kernel_rfl) ?_ | refine Kr_f (by kernel_rfl) ?_
        | (with_reducible refine Kr_t ?_; simp only [List.length_append, List.length_cons, List.length_nil, Nat.reduceAdd, Nat.reduceSub, List.drop_succ_cons, List.drop_zero])
        | with_reducible first | refine vR_nil ?_ | refine KtR_i (by kernel_rfl) ?_ | refine KrR_i (by kernel_rfl) ?_ | refine vR_skip (by decide) ?_
        | ((with_reducible refine vB_i ?_ ?_) <;> intro _ <;> (first | (exfalso; omega) | (exact absurd trivial ‹¬True›) | (try dsimp only [])))
        | ((with_reducible refine vOps_nil' ?_); refine Kr_i (by kernel_rfl) ?_; generalize hk : plain _ _ = G; simp only [lv, E3, E2, E5, rawX, deadX, EB, simprocAttr, DBA8, Ch.x, Ch.inv, Opn.x, St.x, ← rn_app] at hk; subst hk)
        | with_reducible refine vSeq_i ?_
        | with_reducible first | refine vRegion_i (by kernel_rfl) ?_ | refine Kv_i ?_
        | ((with_reducible apply vStrK_i); (focus (rfl; done)))
        | ((with_reducible refine imp_i ?_); intro _)
        | with_reducible first | refine Ks_n ?_ | refine Ks_r ?_ | refine Ks_e ?_ | refine Kl_e ?_ | refine Kx_n ?_ | refine Kl_r ?_ | refine vRet_i ?_ | refine vSkip_i ?_ | refine vExit_i ?_ | refine vBlock_i ?_ | refine Ks_p ?_ | refine Kl_p ?_ | refine blk_p ?_ | exact Kb_p | refine vGoto_i ?_ | refine vLabel_i ?_ | refine Ks_g ?_ | refine Kl_g ?_ | refine blk_g ?_ | refine jmp_g ?_ | refine jmp_n ?_ | refine jmp_r ?_ | refine nog_n ?_ | refine nog_r ?_ | refine blk_n ?_ | refine blk_r ?_ | refine blk_e ?_ | refine blk_o (by decide) ?_ | refine cp_t ?_ | refine cp_f ?_
        | ((with_reducible apply vCond_x); (focus (simp only [lv, E1, E2, E5, ET, T, mvB, bxB, sxB, rxB, fwd, fwds, inv, mOk, EB, simprocAttr, DBA8, Ch.x, Ch.inv, Opn.x, St.x, ← rn_app]; with_reducible first | exact Eq.refl (bo true) | exact Eq.refl (bo false))))
        | ((with_reducible refine And.intro ?_ ?_); (focus (try omega)))
      all_goals exact key _ _ _ (by rw [← Bool.true_and (walkN (s.undo.map Ch.inv) s.undo.length s.text), hw3]; rfl)
    · rw [show (((m + 1 : Nat) : Int) - 1) = (m : Int) by omega]
      have hcm : (s.undo.getD m noCh).ok := hu _ (mem_getD (by omega))
      repeat' first
        | ((first
            | ((with_reducible refine vR_cons (by decide) ?_); generalize hk : KtR _ _ _ _ _ _ _ _ _ _ = k)
            | ((first
            | with_reducible refine vOps_cons' ?_
            | ((with_reducible apply orc_i); (focus (exact turned_ok (s.undo.getD m noCh) hcm.small; done)))
            | ((with_reducible apply orc_i); (focus (exact refDone_ok' cur (s.undo.getD m noCh).inv (hc rfl) hcm.inv; done)))) <;> generalize hk : Kt _ _ _ _ _ _ _ _ _ = k)) <;> (simp only [Tryz.f43, lv, E1, E2, E5, ET, T, mvB, bxB, sxB, rxB, fwd, fwds, inv, mOk, EB, simprocAttr, DBA8, Ch.x, Ch.inv, Opn.x, St.x, ← rn_app]; (try simp (disch := omega) only [wrap_in, Int.toNat_natCast, tv_rn, tv_ch0, tv_ch1, tv_ch2]); subst hk))
        | with_reducible first | refine Kt_p ?_ | refine Kt_i (by kernel_rfl) ?_ | refine Kr_f (by kernel_rfl) ?_
        | (with_reducible refine Kr_t ?_; simp only [List.length_append, List.length_cons, List.length_nil, Nat.reduceAdd, Nat.reduceSub, List.drop_succ_cons, List.drop_zero])
        | with_reducible first | refine vR_nil ?_ | refine KtR_i (by kernel_rfl) ?_ | refine KrR_i (by kernel_rfl) ?_ | refine vR_skip (by decide) ?_
        | ((with_reducible refine vB_i ?_ ?_) <;> intro _ <;> (first | (exfalso; omega) | (exact absurd trivial ‹¬True›) | (try dsimp only [])))
        | ((with_reducible refine vOps_nil' ?_); refine Kr_i (by kernel_rfl) ?_; generalize hk : plain _ _ = G; simp only [lv, E3, E2, E5, rawX, deadX, EB, simprocAttr, DBA8, Ch.x, Ch.inv, Opn.x, St.x, ← rn_app] at hk; subst hk)
        | with_reducible refine vSeq_i ?_
        | with_reducible first | refine vRegion_i (by kernel_rfl) ?_ | refine Kv_i ?_
        | ((with_reducible apply vStrK_i); (focus (rfl; done)))
        | ((with_reducible refine imp_i ?_); intro _)
        | with_reducible first | refine Ks_n ?_ | refine Ks_r ?_ | refine Ks_e ?_ | refine Kl_e ?_ | refine Kx_n ?_ | refine Kl_r ?_ | refine vRet_i ?_ | refine vSkip_i ?_ | refine vExit_i ?_ | refine vBlock_i ?_ | refine Ks_p ?_ | refine Kl_p ?_ | refine blk_p ?_ | exact Kb_p | refine vGoto_i ?_ | refine vLabel_i ?_ | refine Ks_g ?_ | refine Kl_g ?_ | refine blk_g ?_ | refine jmp_g ?_ | refine jmp_n ?_ | refine jmp_r ?_ | refine nog_n ?_ | refine nog_r ?_ | refine blk_n ?_ | refine blk_r ?_ | refine blk_e ?_ | refine blk_o (by decide) ?_ | refine cp_t ?_ | refine cp_f ?_
        | ((with_reducible apply vCond_x); (focus (simp only [lv, E1, E2, E5, ET, T, mvB, bxB, sxB, rxB, fwd, fwds, inv, mOk, EB, simprocAttr, DBA8, Ch.x, Ch.inv, Opn.x, St.x, ← rn_app]; with_reducible first | exact Eq.refl (bo true) | exact Eq.refl (bo false))))
        | ((with_reducible refine And.intro ?_ ?_); (focus (try omega)))
      refine Kl_n ⟨(m, (if (s.undo.getD m noCh).inv.good cur then (s.undo.getD m noCh).inv.done cur else []), decide ((s.undo.getD m noCh).inv.good cur ∧ ((s.undo.getD m noCh).inv.done cur).length ≤ 4096)), ⟨by omega, walk_len, ?_⟩, by omega, ?_⟩
      · dsimp only
        rw [hw3, walk_step, Bool.true_and, getD_inv]
      · rfl
  · refine Kf_r ?_
    simp only [Tryz.f43, E4, E3, E2, E5, rawX, deadX, ET, T, EB, simprocAttr, DBA8, Ch.x, Ch.inv, Opn.x, St.x, ← rn_app, X.p.injEq, X.tup.injEq, PX.one.injEq, PX.agg.injEq, TV.v.injEq, TV.sr.injEq, SV.raw.injEq, SV.sl.injEq, Value.bool.injEq, Value.int.injEq, List.cons.injEq, Prod.mk.injEq, true_and, and_true, and_self]
    unfold rightF; rw [if_neg (by omega), if_pos hb]
end Go.Proofs.YtdpflafjfkooeaaGreatDoorG
namespace Go.Proofs.YtdpflafjfkooeaaGreatDoorG
open Go Go.RowKit Go.Proofs
set_option linter.unusedSimpArgs false
set_option linter.unusedVariables false
/-- What is known of edit.goes. -/
def GoesOk : Prop := ∀ (t : List Int) (l : List Ch) (back : Bool), t.length ≤ 100000 → (∀ c ∈ l, c.ok) → l.length ≤ 100000 →
  CallOk Tryz.prog 73 [sl (rn t), sln 3 (chs l), bo back] (bo (walkN (if back then l.map Ch.inv else l) l.length t)) [] true
structure Opn.ok (o : Opn) : Prop where
  len : o.text.length ≤ 100000
  run : R32s o.text
theorem DBA9 : type_of% (And.intro @rn_len (And.intro @chs_len (And.intro @chs_cnt (And.intro @List.length_map.{0,0} (And.intro @cut_rn (And.intro @take_drop_len (And.intro @List.length_append.{0} (And.intro @List.length_take.{0} (And.intro @List.length_drop.{0} @Int.sub_zero))))))))) := ⟨@rn_len, @chs_len, @chs_cnt, @List.length_map.{0,0}, @cut_rn, @take_drop_len, @List.length_append.{0}, @List.length_take.{0}, @List.length_drop.{0}, @Int.sub_zero⟩
set_option maxRecDepth 10000 in
set_option maxHeartbeats 4000000 in
theorem right_ok (hg : GoesOk) (s : St) (hs : s.ok) : CallOk Tryz.prog 48 [s.x] (i64 (rightF s)) [] true := by
  have g1 : CallOk Tryz.prog 73 [sl (rn s.text), sln 3 (chs s.undo), bo true] (bo (walkN (s.undo.map Ch.inv) s.undo.length s.text)) [] true := hg s.text s.undo true hs.len hs.undo hs.ulen
  have g2 : CallOk Tryz.prog 73 [sl (rn s.text), sln 3 (chs s.redo), bo false] (bo (walkN s.redo s.redo.length s.text)) [] true := hg s.text s.redo false hs.len hs.redo hs.rlen
  obtain ⟨ht, hr, hu, hd, hul, hdl⟩ := hs
  refine fn_ok' T_ok (orc_ok _) mixed Tryz.func48 rfl (by kernel_rfl) (lv [[1], [1, 3], [2], [1, 24], [2], [29], [2], [2]]) 44 rfl (by simp) rfl (by simp [X.all, PX.all, TV.rawR, SV.isRaw]) ?_
  simp only [argsG, Nat.zero_add, Nat.reduceAdd, St.x]
  repeat' first
    | ((first
        | ((with_reducible refine vR_cons (by decide) ?_); generalize hk : KtR _ _ _ _ _ _ _ _ _ _ = k)
        | ((first
        | with_reducible refine vOps_cons' ?_
        | ((with_reducible apply orc_b); (focus (with_reducible exact scal_ok _ hr (by omega); done)); (all_goals (intro hb; (try simp only [decide_eq_true_eq, decide_eq_false_iff_not, Bool.not_eq_true', Bool.not_eq_false', Bool.and_eq_true, Decidable.not_not] at hb))))
        | ((with_reducible apply orc_b); (focus (with_reducible exact g1; done)); (all_goals (intro hb; (try simp only [decide_eq_true_eq, decide_eq_false_iff_not, Bool.not_eq_true', Bool.not_eq_false', Bool.and_eq_true, Decidable.not_not] at hb))))
        | ((with_reducible apply orc_b); (focus (with_reducible exact g2; done)); (all_goals (intro hb; (try simp only [decide_eq_true_eq, decide_eq_false_iff_not, Bool.not_eq_true', Bool.not_eq_false', Bool.and_eq_true, Decidable.not_not] at hb))))) <;> generalize hk : Kt _ _ _ _ _ _ _ _ _ = k)) <;> (simp only [Tryz.f48, lv, E1, E2, E5, ET, T, mvB, bxB, sxB, rxB, fwd, fwds, inv, mOk, EB, simprocAttr, DBA9, Ch.x, Ch.inv, Ch.rx, Ch.rr, Opn.x, St.x, ← rn_app]; (try simp (disch := omega) only [wrap_in, Int.toNat_natCast, tv_rn, tv_ch0, tv_ch1, tv_ch2]); subst hk))
    | with_reducible first | refine Kt_p ?_ | refine Kt_i (by kernel_rfl) ?_ | refine Kr_f (by kernel_rfl) ?_
    | (with_reducible refine Kr_t ?_; simp only [List.length_append, List.length_cons, List.length_nil, Nat.reduceAdd, Nat.reduceSub, List.drop_succ_cons, List.drop_zero])
    | with_reducible first | refine vR_nil ?_ | refine KtR_i (by kernel_rfl) ?_ | refine KrR_i (by kernel_rfl) ?_ | refine vR_skip (by decide) ?_
    | ((with_reducible refine vB_i ?_ ?_) <;> intro _ <;> (first | (exfalso; omega) | (exact absurd trivial ‹¬True›) | (try dsimp only [])))
    | ((with_reducible refine vOps_nil' ?_); refine Kr_i (by kernel_rfl) ?_; generalize hk : plain _ _ = G; simp only [lv, E3, E2, E5, rawX, deadX, EB, simprocAttr, DBA9, Ch.x, Ch.inv, Ch.rx, Ch.rr, Opn.x, St.x, ← rn_app] at hk; subst hk)
    | with_reducible refine vSeq_i ?_
    | with_reducible first | refine vRegion_i (by kernel_rfl) ?_ | refine Kv_i ?_
    | ((with_reducible apply vStrK_i); (focus (rfl; done)))
    | ((with_reducible refine imp_i ?_); intro _)
    | with_reducible first | refine Ks_n ?_ | refine Ks_r ?_ | refine Ks_e ?_ | refine Kl_e ?_ | refine Kx_n ?_ | refine Kl_r ?_ | refine vRet_i ?_ | refine vSkip_i ?_ | refine vExit_i ?_ | refine vBlock_i ?_ | refine Ks_p ?_ | refine Kl_p ?_ | refine blk_p ?_ | exact Kb_p | refine vGoto_i ?_ | refine vLabel_i ?_ | refine Ks_g ?_ | refine Kl_g ?_ | refine blk_g ?_ | refine jmp_g ?_ | refine jmp_n ?_ | refine jmp_r ?_ | refine nog_n ?_ | refine nog_r ?_ | refine blk_n ?_ | refine blk_r ?_ | refine blk_e ?_ | refine blk_o (by decide) ?_ | refine cp_t ?_ | refine cp_f ?_
    | ((with_reducible apply vCond_x); (focus (simp only [lv, E1, E2, E5, ET, T, mvB, bxB, sxB, rxB, fwd, fwds, inv, mOk, EB, simprocAttr, DBA9, Ch.x, Ch.inv, Ch.rx, Ch.rr, Opn.x, St.x, ← rn_app]; with_reducible first | exact Eq.refl (bo true) | exact Eq.refl (bo false))))
    | ((with_reducible refine And.intro ?_ ?_); (focus (try omega)))
  all_goals
    refine Kf_r ?_
    simp only [Tryz.f48, E4, E3, E2, E5, rawX, deadX, ET, T, EB, simprocAttr, DBA9, Ch.x, Ch.inv, Ch.rx, Ch.rr, Opn.x, St.x, ← rn_app, X.p.injEq, X.tup.injEq, PX.one.injEq, PX.agg.injEq, TV.v.injEq, TV.sr.injEq, SV.raw.injEq, SV.sl.injEq, Value.bool.injEq, Value.int.injEq, List.cons.injEq, Prod.mk.injEq, true_and, and_true, and_self]
    unfold rightF
    (repeat' split) <;> first | rfl | (exfalso; first | contradiction | omega | (simp_all; done))
end Go.Proofs.YtdpflafjfkooeaaGreatDoorG
namespace Go.Proofs.YtdpflafjfkooeaaGreatDoorG
open Go Go.RowKit Go.Proofs
set_option linter.unusedSimpArgs false
set_option linter.unusedVariables false
/-- What an operation does to the text, or why it does nothing. -/
def effF (s : St) (o : Opn) : Ch × Int :=
  if rightF s ≠ 0 then (noCh, rightF s) else if o.kind = 1 then insF s.text o else if o.kind = 2 then remF s.text o
  else if o.kind = 3 then (if (s.undo.length : Int) > 0 then ((s.undo.getD ((s.undo.length : Int) - 1).toNat noCh).inv, 0) else (noCh, 220))
  else if o.kind = 4 then (if (s.redo.length : Int) > 0 then (s.redo.getD ((s.redo.length : Int) - 1).toNat noCh, 0) else (noCh, 220)) else (noCh, 2)
theorem DBA10 : type_of% (And.intro @rn_len (And.intro @chs_len (And.intro @chs_cnt (And.intro @List.length_map.{0,0} (And.intro @cut_rn (And.intro @take_drop_len (And.intro @List.length_append.{0} (And.intro @List.length_take.{0} (And.intro @List.length_drop.{0} @Int.sub_zero))))))))) := ⟨@rn_len, @chs_len, @chs_cnt, @List.length_map.{0,0}, @cut_rn, @take_drop_len, @List.length_append.{0}, @List.length_take.{0}, @List.length_drop.{0}, @Int.sub_zero⟩
set_option maxRecDepth 10000 in
set_option maxHeartbeats 4000000 in
theorem effect_ok (hg : GoesOk) (s : St) (o : Opn) (hs : s.ok) (ho : o.ok) : CallOk Tryz.prog 33 [s.x, o.x] ((effF s o).1.rx (effF s o).2) (effF s o).1.rr true := by
  have hr := right_ok hg s hs
  have hui : (s.undo.length : Int) > 0 → (s.undo.getD ((s.undo.length : Int) - 1).toNat noCh).ok := fun h => hs.undo _ (mem_getD (by omega))
  have hri : (s.redo.length : Int) > 0 → (s.redo.getD ((s.redo.length : Int) - 1).toNat noCh).ok := fun h => hs.redo _ (mem_getD (by omega))
  obtain ⟨ht, hrr, hu, hd, hul, hdl⟩ := hs
  obtain ⟨ho1, ho2⟩ := ho
  refine fn_ok' T_ok (orc_ok _) mixed Tryz.func33 rfl (by kernel_rfl) (lv [[2, 3, 4], [2, 3, 4, 6], [2, 3, 4, 6, 12], [4, 5], [2, 3, 4, 16], [2, 3, 4, 16, 17], [4, 5], [2, 3, 4, 16, 25], [4, 5], [2, 4, 16, 33], [2, 4, 7], [2, 4, 7, 39], [4, 5], [4, 5], [2, 4, 48], [2, 4, 8], [2, 4, 8, 54], [4, 5], [4, 5], [4, 5]]) 65 rfl (by simp) rfl (fun _ => ⟨rfl, Ch.rr_raw⟩) ?_
  rcases hI : effF s o with ⟨c, e⟩
  simp only [argsG, Nat.zero_add, Nat.reduceAdd, St.x, Opn.x]
  repeat' first
    | ((first
        | ((with_reducible refine vR_cons (by decide) ?_); generalize hk : KtR _ _ _ _ _ _ _ _ _ _ = k)
        | ((first
        | with_reducible refine vOps_cons' ?_
        | ((with_reducible apply orc_i); (focus (exact hr; done)))
        | ((with_reducible apply orc_i); (focus (exact insert_ok s.text o (by omega) (by omega) ho2; done)))
        | ((with_reducible apply orc_i); (focus (exact remove_ok s.text o (by omega); done)))
        | ((with_reducible apply orc_i); (focus (exact inverse_ok (s.undo.getD ((s.undo.length : Int) - 1).toNat noCh) (hui (by assumption)).small; done)))
        | ((with_reducible apply orc_i); (focus (exact inverse_ok (s.redo.getD ((s.redo.length : Int) - 1).toNat noCh) (hri (by assumption)).small; done)))
        | ((with_reducible apply orc_i); (focus (exact inverse_ok (s.redo.getD ((s.redo.length : Int) - 1).toNat noCh).inv (hri (by assumption)).inv.small; done)))) <;> generalize hk : Kt _ _ _ _ _ _ _ _ _ = k)) <;> (simp only [Tryz.f33, lv, E1, E2, E5, ET, T, mvB, bxB, sxB, rxB, fwd, fwds, inv, mOk, EB, simprocAttr, DBA10, Ch.x, Ch.inv, Ch.rx, Ch.rr, Opn.x, St.x, ← rn_app]; (try simp (disch := omega) only [wrap_in, Int.toNat_natCast, tv_rn, tv_ch0, tv_ch1, tv_ch2]); subst hk))
    | with_reducible first | refine Kt_p ?_ | refine Kt_i (by kernel_rfl) ?_ | refine Kr_f (by kernel_rfl) ?_
    | (with_reducible refine Kr_t ?_; simp only [List.length_append, List.length_cons, List.length_nil, Nat.reduceAdd, Nat.reduceSub, List.drop_succ_cons, List.drop_zero])
    | with_reducible first | refine vR_nil ?_ | refine KtR_i (by kernel_rfl) ?_ | refine KrR_i (by kernel_rfl) ?_ | refine vR_skip (by decide) ?_
    | ((with_reducible refine vB_i ?_ ?_) <;> intro _ <;> (first | (exfalso; omega) | (exact absurd trivial ‹¬True›) | (try dsimp only [])))
    | ((with_reducible refine vOps_nil' ?_); refine Kr_i (by kernel_rfl) ?_; generalize hk : plain _ _ = G; simp only [lv, E3, E2, E5, rawX, deadX, EB, simprocAttr, DBA10, Ch.x, Ch.inv, Ch.rx, Ch.rr, Opn.x, St.x, ← rn_app] at hk; subst hk)
    | with_reducible refine vSeq_i ?_
    | with_reducible first | refine vRegion_i (by kernel_rfl) ?_ | refine Kv_i ?_
    | ((with_reducible apply vStrK_i); (focus (rfl; done)))
    | ((with_reducible refine imp_i ?_); intro _)
    | with_reducible first | refine Ks_n ?_ | refine Ks_r ?_ | refine Ks_e ?_ | refine Kl_e ?_ | refine Kx_n ?_ | refine Kl_r ?_ | refine vRet_i ?_ | refine vSkip_i ?_ | refine vExit_i ?_ | refine vBlock_i ?_ | refine Ks_p ?_ | refine Kl_p ?_ | refine blk_p ?_ | exact Kb_p | refine vGoto_i ?_ | refine vLabel_i ?_ | refine Ks_g ?_ | refine Kl_g ?_ | refine blk_g ?_ | refine jmp_g ?_ | refine jmp_n ?_ | refine jmp_r ?_ | refine nog_n ?_ | refine nog_r ?_ | refine blk_n ?_ | refine blk_r ?_ | refine blk_e ?_ | refine blk_o (by decide) ?_ | refine cp_t ?_ | refine cp_f ?_
    | ((with_reducible apply vCond_x); (focus (simp only [lv, E1, E2, E5, ET, T, mvB, bxB, sxB, rxB, fwd, fwds, inv, mOk, EB, simprocAttr, DBA10, Ch.x, Ch.inv, Ch.rx, Ch.rr, Opn.x, St.x, ← rn_app]; with_reducible first | exact Eq.refl (bo true) | exact Eq.refl (bo false))))
    | ((with_reducible refine And.intro ?_ ?_); (focus (try omega)))
  all_goals
    unfold effF at hI
    (repeat' split at hI)
    all_goals first
      | (exfalso; first | contradiction | omega)
      | (simp only [Prod.mk.injEq] at hI
         obtain ⟨rfl, rfl⟩ := hI
         refine Kf_r ?_
         simp only [Tryz.f33, E4, E3, E2, E5, rawX, deadX, ET, T, EB, simprocAttr, DBA10, Ch.x, Ch.inv, Ch.rx, Ch.rr, Opn.x, St.x, ← rn_app, Ch.rx, Ch.rr, Ch.inv, noCh, rn_nil]
         done)
      | (refine Kf_r ?_
         simp only [Tryz.f33, E4, E3, E2, E5, rawX, deadX, ET, T, EB, simprocAttr, DBA10, Ch.x, Ch.inv, Ch.rx, Ch.rr, Opn.x, St.x, ← rn_app, Ch.rx, Ch.rr, Ch.inv, hI]
         done)
      | (refine Kf_r ?_
         simp only [Tryz.f33, E4, E3, E2, E5, rawX, deadX, ET, T, EB, simprocAttr, DBA10, Ch.x, Ch.inv, Ch.rx, Ch.rr, Opn.x, St.x, ← rn_app, Ch.rx, Ch.rr, Ch.inv, hI]
         trace_state)
end Go.Proofs.YtdpflafjfkooeaaGreatDoorG
namespace Go.Proofs.YtdpflafjfkooeaaGreatDoorG
open Go Go.RowKit Go.Proofs
set_option linter.unusedSimpArgs false
set_option linter.unusedVariables false
theorem DBA11 : type_of% (And.intro @rn_len (And.intro @chs_len (And.intro @chs_cnt (And.intro @List.length_map.{0,0} (And.intro @cut_rn (And.intro @take_drop_len (And.intro @List.length_append.{0} (And.intro @List.length_take.{0} (And.intro @List.length_drop.{0} @Int.sub_zero))))))))) := ⟨@rn_len, @chs_len, @chs_cnt, @List.length_map.{0,0}, @cut_rn, @take_drop_len, @List.length_append.{0}, @List.length_take.{0}, @List.length_drop.{0}, @Int.sub_zero⟩
set_option maxRecDepth 10000 in
set_option maxHeartbeats 4000000 in
theorem refEffect_ok (s : St) (o : Opn) (hs : s.ok) (ho : o.ok) : CallOk Tryz.prog 38 [s.x, o.x] ((effF s o).1.rx (effF s o).2) (effF s o).1.rr true := by
  have hr := refRight_ok s hs
  have hui : (s.undo.length : Int) > 0 → (s.undo.getD ((s.undo.length : Int) - 1).toNat noCh).ok := fun h => hs.undo _ (mem_getD (by omega))
  have hri : (s.redo.length : Int) > 0 → (s.redo.getD ((s.redo.length : Int) - 1).toNat noCh).ok := fun h => hs.redo _ (mem_getD (by omega))
  obtain ⟨ht, hrr, hu, hd, hul, hdl⟩ := hs
  obtain ⟨ho1, ho2⟩ := ho
  refine fn_ok' T_ok (orc_ok _) mixed Tryz.func38 rfl (by kernel_rfl) (lv [[2, 3, 4], [2, 3, 4, 6], [2, 3, 4, 6, 7], [2, 3, 4, 6, 7, 13], [4, 5], [2, 3, 4, 6, 8], [2, 3, 4, 6, 8, 20], [2, 3, 4, 6, 8, 20, 21], [3, 4, 6, 8, 26], [4, 5], [3, 4, 6, 8, 31], [4, 5], [3, 4, 6, 8, 41], [4, 5], [3, 4, 6, 48], [4, 5], [4, 5], [2, 3, 4, 6, 8, 20, 57], [2, 3, 4, 6, 74], [4, 5], [2, 3, 4, 6, 80], [4, 5], [4, 5], [2, 4, 6, 20, 94], [2, 4, 6, 99], [4, 5], [4, 5], [2, 4, 6, 110], [2, 4, 6, 115], [4, 5], [4, 5], [4, 5]]) 128 rfl (by simp) rfl (fun _ => ⟨rfl, Ch.rr_raw⟩) ?_
  rcases hI : effF s o with ⟨c, e⟩
  simp only [argsG, Nat.zero_add, Nat.reduceAdd, St.x, Opn.x]
  repeat' first
    | ((first
        | ((with_reducible refine vR_cons (by decide) ?_); generalize hk : KtR _ _ _ _ _ _ _ _ _ _ = k)
        | ((first
        | with_reducible refine vOps_cons' ?_
        | ((with_reducible apply orc_i); (focus (exact hr; done)))
        | ((with_reducible apply orc_b); (focus (exact scal1_ok _ ho2 (by omega); done)); (all_goals (intro hb; (try simp only [decide_eq_true_eq, decide_eq_false_iff_not, Bool.not_eq_true', Bool.not_eq_false', Bool.and_eq_true, Decidable.not_not] at hb))))
        | ((with_reducible apply orc_i); (focus (exact turned_ok (s.undo.getD ((s.undo.length : Int) - 1).toNat noCh) (hui (by omega)).small; done)))
        | ((with_reducible apply orc_i); (focus (exact turned_ok (s.redo.getD ((s.redo.length : Int) - 1).toNat noCh) (hri (by omega)).small; done)))
        | ((with_reducible apply orc_i); (focus (exact turned_ok (s.redo.getD ((s.redo.length : Int) - 1).toNat noCh).inv (hri (by omega)).inv.small; done)))) <;> generalize hk : Kt _ _ _ _ _ _ _ _ _ = k)) <;> (simp only [Tryz.f38, lv, E1, E2, E5, ET, T, mvB, bxB, sxB, rxB, fwd, fwds, inv, mOk, EB, simprocAttr, DBA11, Ch.x, Ch.inv, Ch.rx, Ch.rr, Opn.x, St.x, ← rn_app]; (try simp (disch := omega) only [wrap_in, Int.toNat_natCast, tv_rn, tv_ch0, tv_ch1, tv_ch2]); subst hk))
    | with_reducible first | refine Kt_p ?_ | refine Kt_i (by kernel_rfl) ?_ | refine Kr_f (by kernel_rfl) ?_
    | (with_reducible refine Kr_t ?_; simp only [List.length_append, List.length_cons, List.length_nil, Nat.reduceAdd, Nat.reduceSub, List.drop_succ_cons, List.drop_zero])
    | with_reducible first | refine vR_nil ?_ | refine KtR_i (by kernel_rfl) ?_ | refine KrR_i (by kernel_rfl) ?_ | refine vR_skip (by decide) ?_
    | ((with_reducible refine vB_i ?_ ?_) <;> intro _ <;> (first | (exfalso; omega) | (exact absurd trivial ‹¬True›) | (try dsimp only [])))
    | ((with_reducible refine vOps_nil' ?_); refine Kr_i (by kernel_rfl) ?_; generalize hk : plain _ _ = G; simp only [lv, E3, E2, E5, rawX, deadX, EB, simprocAttr, DBA11, Ch.x, Ch.inv, Ch.rx, Ch.rr, Opn.x, St.x, ← rn_app] at hk; subst hk)
    | with_reducible refine vSeq_i ?_
    | with_reducible first | refine vRegion_i (by kernel_rfl) ?_ | refine Kv_i ?_
    | ((with_reducible apply vStrK_i); (focus (rfl; done)))
    | ((with_reducible refine imp_i ?_); intro _)
    | with_reducible first | refine Ks_n ?_ | refine Ks_r ?_ | refine Ks_e ?_ | refine Kl_e ?_ | refine Kx_n ?_ | refine Kl_r ?_ | refine vRet_i ?_ | refine vSkip_i ?_ | refine vExit_i ?_ | refine vBlock_i ?_ | refine Ks_p ?_ | refine Kl_p ?_ | refine blk_p ?_ | exact Kb_p | refine vGoto_i ?_ | refine vLabel_i ?_ | refine Ks_g ?_ | refine Kl_g ?_ | refine blk_g ?_ | refine jmp_g ?_ | refine jmp_n ?_ | refine jmp_r ?_ | refine nog_n ?_ | refine nog_r ?_ | refine blk_n ?_ | refine blk_r ?_ | refine blk_e ?_ | refine blk_o (by decide) ?_ | refine cp_t ?_ | refine cp_f ?_
    | ((with_reducible apply vCond_x); (focus (simp only [lv, E1, E2, E5, ET, T, mvB, bxB, sxB, rxB, fwd, fwds, inv, mOk, EB, simprocAttr, DBA11, Ch.x, Ch.inv, Ch.rx, Ch.rr, Opn.x, St.x, ← rn_app]; with_reducible first | exact Eq.refl (bo true) | exact Eq.refl (bo false))))
    | ((with_reducible refine And.intro ?_ ?_); (focus (try omega)))
  all_goals
    try unfold effF insF remF at hI
    try unfold effF insF at hI
    try unfold effF remF at hI
    try unfold effF at hI
    (repeat' split at hI)
    all_goals first
      | (exfalso; first | contradiction | omega)
      | (simp only [Prod.mk.injEq] at hI
         obtain ⟨rfl, rfl⟩ := hI
         refine Kf_r ?_
         simp only [Tryz.f38, E4, E3, E2, E5, rawX, deadX, ET, T, EB, simprocAttr, DBA11, Ch.x, Ch.inv, Ch.rx, Ch.rr, Opn.x, St.x, ← rn_app, Ch.rx, Ch.rr, Ch.inv, noCh, rn_nil]
         done)
      | (refine Kf_r ?_
         simp only [Tryz.f38, E4, E3, E2, E5, rawX, deadX, ET, T, EB, simprocAttr, DBA11, Ch.x, Ch.inv, Ch.rx, Ch.rr, Opn.x, St.x, ← rn_app, Ch.rx, Ch.rr, Ch.inv, hI]
         done)
      | (refine Kf_r ?_
         simp only [Tryz.f38, E4, E3, E2, E5, rawX, deadX, ET, T, EB, simprocAttr, DBA11, Ch.x, Ch.inv, Ch.rx, Ch.rr, Opn.x, St.x, ← rn_app, Ch.rx, Ch.rr, Ch.inv, hI]
         trace_state)
end Go.Proofs.YtdpflafjfkooeaaGreatDoorG
namespace Go.Proofs.YtdpflafjfkooeaaGreatDoorG
open Go Go.RowKit Go.Proofs
set_option linter.unusedSimpArgs false
set_option linter.unusedVariables false
theorem right_zero {s : St} (h : rightF s = 0) : s.text.length ≤ 4096 ∧ s.undo.length + s.redo.length ≤ 16 ∧ scal s.text ∧ walkN (s.undo.map Ch.inv) s.undo.length s.text = true ∧ walkN s.redo s.redo.length s.text = true := by
  unfold rightF at h
  (repeat' split at h) <;> first | (exfalso; omega) | skip
  rename_i h1 h2 h3
  simp only [Bool.not_eq_false, Bool.and_eq_true] at h3
  exact ⟨by omega, by omega, Classical.not_not.1 h2, h3.1, h3.2⟩
theorem walk_head {l : List Ch} {t : List Int} (h : walkN l l.length t = true) (hl : 0 < l.length) : (l.getD (l.length - 1) noCh).good t ∧ ((l.getD (l.length - 1) noCh).done t).length ≤ 4096 ∧ walkN l (l.length - 1) ((l.getD (l.length - 1) noCh).done t) = true := by
  obtain ⟨m, hm⟩ : ∃ m, l.length = m + 1 := ⟨l.length - 1, by omega⟩
  rw [hm] at h ⊢
  simp only [walkN, Bool.and_eq_true, decide_eq_true_eq] at h
  exact ⟨h.1.1, h.1.2, h.2⟩
theorem eff_zero {s : St} {o : Opn} {c : Ch} (h : effF s o = (c, 0)) : rightF s = 0 := by
  unfold effF at h
  split at h
  · rename_i h1; simp only [Prod.mk.injEq] at h; exact absurd h.2 h1
  · rename_i h1; exact Classical.not_not.1 h1
theorem eff_good {s : St} {o : Opn} {c : Ch} (hs : s.ok) (ho : o.ok) (h : effF s o = (c, 0)) : c.good s.text ∧ c.ok ∧ (c.done s.text).length ≤ 4096 := by
  have hr := right_zero (eff_zero h)
  obtain ⟨r1, r2, r3, r4, r5⟩ := hr
  unfold effF at h
  rw [if_neg (by rw [eff_zero (c := c) (by unfold effF; exact h)]; exact fun h => h rfl)] at h
  have hsc : scal [] := fun i hi => by simp at hi
  split at h
  · unfold insF at h
    (repeat' split at h) <;> simp only [Prod.mk.injEq] at h <;> first | (exfalso; omega) | skip
    rename_i h1 h2 h3 h4
    obtain ⟨rfl, _⟩ := h
    have hf : Ch.fits ⟨o.at_, [], o.text⟩ s.text := ⟨by show 0 ≤ o.at_; omega, by show o.at_ ≤ s.text.length; omega, by simp; omega, by simp⟩
    refine ⟨⟨hsc, Classical.not_not.1 h2, hf⟩, ⟨by simp, ho.len, by intro x hx; simp at hx, ho.run⟩, ?_⟩
    rw [Ch.done_len hf]; simp; omega
  · split at h
    · unfold remF at h
      (repeat' split at h) <;> simp only [Prod.mk.injEq] at h <;> first | (exfalso; omega) | skip
      rename_i h1 h2
      obtain ⟨rfl, _⟩ := h
      have hl : ((s.text.drop o.at_.toNat).take (o.to_ - o.at_).toNat).length = (o.to_ - o.at_).toNat := by simp; omega
      have hf : Ch.fits ⟨o.at_, (s.text.drop o.at_.toNat).take (o.to_ - o.at_).toNat, []⟩ s.text := ⟨by show 0 ≤ o.at_; omega, by show o.at_ ≤ s.text.length; omega, by simp only [hl]; omega, by simp only [hl]⟩
      refine ⟨⟨fun i hi => ?_, hsc, hf⟩, ⟨by simp only [hl]; omega, by simp, (hs.run.drop _).take _, by intro x hx; simp at hx⟩, ?_⟩
      · simp only [hl] at hi
        have := r3 (o.at_.toNat + i) (by omega)
        simpa [List.getD, List.getElem?_take, List.getElem?_drop, hi] using this
      · rw [Ch.done_len hf]; simp only [List.length_nil]; omega
    · split at h
      · split at h
        · rename_i hl
          simp only [Prod.mk.injEq] at h
          obtain ⟨rfl, _⟩ := h
          have := walk_head (l := s.undo.map Ch.inv) (by simpa using r4) (by simp; omega)
          simp only [List.length_map, getD_inv] at this
          rw [show ((s.undo.length : Int) - 1).toNat = s.undo.length - 1 by omega]
          exact ⟨this.1, (hs.undo _ (mem_getD (by omega))).inv, this.2.1⟩
        · simp only [Prod.mk.injEq] at h; exfalso; omega
      · split at h
        · split at h
          · rename_i hl
            simp only [Prod.mk.injEq] at h
            obtain ⟨rfl, _⟩ := h
            have := walk_head r5 (by omega)
            rw [show ((s.redo.length : Int) - 1).toNat = s.redo.length - 1 by omega]
            exact ⟨this.1, hs.redo _ (mem_getD (by omega)), this.2.1⟩
          · simp only [Prod.mk.injEq] at h; exfalso; omega
        · simp only [Prod.mk.injEq] at h; exfalso; omega
/-- What an operation makes of a state. -/
def appF (s : St) (o : Opn) : St × Int :=
  if (effF s o).2 ≠ 0 then (⟨[], [], []⟩, (effF s o).2)
  else if o.kind = 3 then (⟨(effF s o).1.done s.text, s.undo.take (s.undo.length - 1), s.redo ++ [(effF s o).1.inv]⟩, 0)
  else if o.kind = 4 then (⟨(effF s o).1.done s.text, s.undo ++ [(effF s o).1], s.redo.take (s.redo.length - 1)⟩, 0)
  else (⟨(effF s o).1.done s.text, if s.undo.length + 1 > 16 then (s.undo ++ [(effF s o).1]).drop 1 else s.undo ++ [(effF s o).1], []⟩, 0)
theorem eff_undo {s : St} {o : Opn} {c : Ch} (h : effF s o = (c, 0)) (hk : o.kind = 3) : 0 < s.undo.length := by
  have h0 := eff_zero h
  unfold effF at h
  rw [if_neg (by rw [h0]; exact fun h => h rfl), if_neg (by omega), if_neg (by omega), if_pos hk] at h
  split at h
  · omega
  · simp only [Prod.mk.injEq] at h; exfalso; omega
theorem eff_redo {s : St} {o : Opn} {c : Ch} (h : effF s o = (c, 0)) (hk : o.kind = 4) : 0 < s.redo.length := by
  have h0 := eff_zero h
  unfold effF at h
  rw [if_neg (by rw [h0]; exact fun h => h rfl), if_neg (by omega), if_neg (by omega), if_neg (by omega), if_pos hk] at h
  split at h
  · omega
  · simp only [Prod.mk.injEq] at h; exfalso; omega
theorem chs_snoc (l : List Ch) (c : Ch) : chs (l ++ [c]) = chs l ++ [.raw (.int .i64 c.at_), .sl 1 (rn c.gone), .sl 1 (rn c.came)] := by rw [chs_app]; rfl
theorem cnt_snoc (l : List Ch) (a b d : SV) : cnt 3 (chs l ++ [a, b, d]) = l.length + 1 := by
  simp only [cnt, List.length_append, chs_len, List.length_cons, List.length_nil]; omega
theorem cut_snoc (l : List Ch) (a b d : SV) : cutSV 3 (chs l ++ [a, b, d]) 1 ((l.length + 1 : Nat) : Int) = (chs l ++ [a, b, d]).drop 3 := by
  simp only [cutSV]
  rw [show (1 : Int).toNat * 3 = 3 from rfl]
  refine List.take_of_length_le ?_
  simp only [List.length_drop, List.length_append, chs_len, List.length_cons, List.length_nil]; omega
theorem chs_nil : chs [] = [] := rfl
theorem chs_take (l : List Ch) (k : Nat) : chs (l.take k) = (chs l).take (k * 3) := by
  induction l generalizing k with
  | nil => simp [chs]
  | cons c l ih => cases k with
    | zero => simp [chs]
    | succ k => rw [List.take_succ_cons, chs_cons, chs_cons, ih, Nat.succ_mul]; rfl
theorem chs_drop (l : List Ch) (k : Nat) : chs (l.drop k) = (chs l).drop (k * 3) := by
  induction l generalizing k with
  | nil => simp [chs]
  | cons c l ih => cases k with
    | zero => simp [chs]
    | succ k => rw [List.drop_succ_cons, chs_cons, ih, Nat.succ_mul]; rfl
end Go.Proofs.YtdpflafjfkooeaaGreatDoorG
namespace Go.Proofs.YtdpflafjfkooeaaGreatDoorG
open Go Go.RowKit Go.Proofs
set_option linter.unusedSimpArgs false
set_option linter.unusedVariables false
def bulkL : List Ch → Int → Int
  | [], n => n
  | c :: r, n => if n < 100000 then bulkL r (n + c.gone.length + c.came.length) else n
/-- How many numbers a state has. -/
def bulkF (s : St) : Int := if s.undo.length > 1000 ∨ s.redo.length > 1000 then 100000 else bulkL (s.undo ++ s.redo) s.text.length
theorem DBA19 : type_of% (And.intro @rn_len (And.intro @chs_len (And.intro @chs_cnt (And.intro @List.length_map.{0,0} @List.length_append.{0})))) := ⟨@rn_len, @chs_len, @chs_cnt, @List.length_map.{0,0}, @List.length_append.{0}⟩
set_option maxRecDepth 10000 in
set_option maxHeartbeats 4000000 in
theorem bulk_ok (s : St) (h0 : s.text.length ≤ 2000000) (h1 : s.undo.length ≤ 2000000) (h2 : s.redo.length ≤ 2000000) (h3 : ∀ c ∈ s.undo ++ s.redo, c.gone.length ≤ 2000000 ∧ c.came.length ≤ 2000000) : CallOk Tryz.prog 4 [s.x] (i64 (bulkF s)) [] true := by
  refine fn_ok' T_ok (orc_ok _) mixed Tryz.func4 rfl (by kernel_rfl) (lv [[1], [1, 15], [2], [1, 3], [3, 4, 1000004], [3, 4, 5], [3, 4, 5, 33], [3, 4, 5], [3, 4, 5], [2]]) 52 rfl (by simp) rfl (by simp [X.all, PX.all, TV.rawR, SV.isRaw]) ?_
  simp only [argsG, Nat.zero_add, Nat.reduceAdd, St.x]
  repeat' first
    | ((first
        | ((with_reducible refine vR_cons (by decide) ?_); generalize hk : KtR _ _ _ _ _ _ _ _ _ _ = k)
        | ((first
        | with_reducible refine vOps_cons' ?_) <;> generalize hk : Kt _ _ _ _ _ _ _ _ _ = k)) <;> (simp only [Tryz.f4, lv, E1, E2, E5, ET, T, mvB, bxB, sxB, rxB, fwd, fwds, inv, mOk, EB, simprocAttr, DBA19, St.x, ← chs_app]; (try simp (disch := omega) only [wrap_in, Int.toNat_natCast, tv_rn, tv_ch0, tv_ch1, tv_ch2]); subst hk))
    | with_reducible first | refine Kt_p ?_ | refine Kt_i (by kernel_rfl) ?_ | refine Kr_f (by kernel_rfl) ?_
    | (with_reducible refine Kr_t ?_; simp only [List.length_append, List.length_cons, List.length_nil, Nat.reduceAdd, Nat.reduceSub, List.drop_succ_cons, List.drop_zero])
    | with_reducible first | refine vR_nil ?_ | refine KtR_i (by kernel_rfl) ?_ | refine KrR_i (by kernel_rfl) ?_ | refine vR_skip (by decide) ?_
    | ((with_reducible refine vB_i ?_ ?_) <;> intro _ <;> (first | (exfalso; omega) | (exact absurd trivial ‹¬True›) | (try dsimp only [])))
    | ((with_reducible refine vOps_nil' ?_); refine Kr_i (by kernel_rfl) ?_; generalize hk : plain _ _ = G; simp only [lv, E3, E2, E5, rawX, deadX, EB, simprocAttr, DBA19, St.x, ← chs_app] at hk; subst hk)
    | with_reducible refine vSeq_i ?_
    | with_reducible first | refine vRegion_i (by kernel_rfl) ?_ | refine Kv_i ?_
    | ((with_reducible apply vStrK_i); (focus (rfl; done)))
    | ((with_reducible refine imp_i ?_); intro _)
    | with_reducible first | refine Ks_n ?_ | refine Ks_r ?_ | refine Ks_e ?_ | refine Kl_e ?_ | refine Kx_n ?_ | refine Kl_r ?_ | refine vRet_i ?_ | refine vSkip_i ?_ | refine vExit_i ?_ | refine vBlock_i ?_ | refine Ks_p ?_ | refine Kl_p ?_ | refine blk_p ?_ | exact Kb_p | refine vGoto_i ?_ | refine vLabel_i ?_ | refine Ks_g ?_ | refine Kl_g ?_ | refine blk_g ?_ | refine jmp_g ?_ | refine jmp_n ?_ | refine jmp_r ?_ | refine nog_n ?_ | refine nog_r ?_ | refine blk_n ?_ | refine blk_r ?_ | refine blk_e ?_ | refine blk_o (by decide) ?_ | refine cp_t ?_ | refine cp_f ?_
    | ((with_reducible apply vCond_x); (focus (simp only [lv, E1, E2, E5, ET, T, mvB, bxB, sxB, rxB, fwd, fwds, inv, mOk, EB, simprocAttr, DBA19, St.x, ← chs_app]; with_reducible first | exact Eq.refl (bo true) | exact Eq.refl (bo false))))
    | ((with_reducible refine And.intro ?_ ?_); (focus (try omega)))
  · refine Kf_r ?_
    simp only [Tryz.f4, E4, E3, E2, E5, rawX, deadX, ET, T, EB, simprocAttr, DBA19, St.x, ← chs_app, X.p.injEq, X.tup.injEq, PX.one.injEq, PX.agg.injEq, TV.v.injEq, TV.sr.injEq, SV.raw.injEq, SV.sl.injEq, Value.bool.injEq, Value.int.injEq, List.cons.injEq, Prod.mk.injEq, true_and, and_true, and_self]
    unfold bulkF; rw [if_pos (by omega)]
  · refine Kf_r ?_
    simp only [Tryz.f4, E4, E3, E2, E5, rawX, deadX, ET, T, EB, simprocAttr, DBA19, St.x, ← chs_app, X.p.injEq, X.tup.injEq, PX.one.injEq, PX.agg.injEq, TV.v.injEq, TV.sr.injEq, SV.raw.injEq, SV.sl.injEq, Value.bool.injEq, Value.int.injEq, List.cons.injEq, Prod.mk.injEq, true_and, and_true, and_self]
    unfold bulkF; rw [if_pos (by omega)]
  · simp only [cnt, List.length_nil]; omega
  rename_i q1 q2
  refine vLoop_s (fun z : Nat × Int => [(.t 3, .t (i64 z.2)), (.t 4, .t (sln 3 (chs (s.undo ++ s.redo)))), (.t 5, .t (i64 z.1))])
    (fun z => z.1 ≤ s.undo.length + s.redo.length ∧ 0 ≤ z.2 ∧ z.2 ≤ 5000000 ∧ bulkL (s.undo ++ s.redo) s.text.length = bulkL ((s.undo ++ s.redo).drop z.1) z.2) (fun z => s.undo.length + s.redo.length - z.1) (0, s.text.length) ⟨Nat.zero_le _, by dsimp only; omega, by dsimp only; omega, rfl⟩ rfl ?_
  rintro ⟨k, n⟩ ⟨hk, hn0, hn1, hb⟩
  dsimp only at hk hn0 hn1 hb ⊢
  have hlen : (s.undo ++ s.redo).length = s.undo.length + s.redo.length := List.length_append
  have hch : k < s.undo.length + s.redo.length → ((s.undo ++ s.redo).getD k noCh).gone.length ≤ 2000000 ∧ ((s.undo ++ s.redo).getD k noCh).came.length ≤ 2000000 := fun h => h3 _ (mem_getD (by omega))
  repeat' first
    | ((first
        | ((with_reducible refine vR_cons (by decide) ?_); generalize hk : KtR _ _ _ _ _ _ _ _ _ _ = k)
        | ((first
        | with_reducible refine vOps_cons' ?_) <;> generalize hk : Kt _ _ _ _ _ _ _ _ _ = k)) <;> (simp only [Tryz.f4, lv, E1, E2, E5, ET, T, mvB, bxB, sxB, rxB, fwd, fwds, inv, mOk, EB, simprocAttr, DBA19, St.x, ← chs_app]; (try simp (disch := omega) only [wrap_in, Int.toNat_natCast, tv_rn, tv_ch0, tv_ch1, tv_ch2]); subst hk))
    | with_reducible first | refine Kt_p ?_ | refine Kt_i (by kernel_rfl) ?_ | refine Kr_f (by kernel_rfl) ?_
    | (with_reducible refine Kr_t ?_; simp only [List.length_append, List.length_cons, List.length_nil, Nat.reduceAdd, Nat.reduceSub, List.drop_succ_cons, List.drop_zero])
    | with_reducible first | refine vR_nil ?_ | refine KtR_i (by kernel_rfl) ?_ | refine KrR_i (by kernel_rfl) ?_ | refine vR_skip (by decide) ?_
    | ((with_reducible refine vB_i ?_ ?_) <;> intro _ <;> (first | (exfalso; omega) | (exact absurd trivial ‹¬True›) | (try dsimp only [])))
    | ((with_reducible refine vOps_nil' ?_); refine Kr_i (by kernel_rfl) ?_; generalize hk : plain _ _ = G; simp only [lv, E3, E2, E5, rawX, deadX, EB, simprocAttr, DBA19, St.x, ← chs_app] at hk; subst hk)
    | with_reducible refine vSeq_i ?_
    | with_reducible first | refine vRegion_i (by kernel_rfl) ?_ | refine Kv_i ?_
    | ((with_reducible apply vStrK_i); (focus (rfl; done)))
    | ((with_reducible refine imp_i ?_); intro _)
    | with_reducible first | refine Ks_n ?_ | refine Ks_r ?_ | refine Ks_e ?_ | refine Kl_e ?_ | refine Kx_n ?_ | refine Kl_r ?_ | refine vRet_i ?_ | refine vSkip_i ?_ | refine vExit_i ?_ | refine vBlock_i ?_ | refine Ks_p ?_ | refine Kl_p ?_ | refine blk_p ?_ | exact Kb_p | refine vGoto_i ?_ | refine vLabel_i ?_ | refine Ks_g ?_ | refine Kl_g ?_ | refine blk_g ?_ | refine jmp_g ?_ | refine jmp_n ?_ | refine jmp_r ?_ | refine nog_n ?_ | refine nog_r ?_ | refine blk_n ?_ | refine blk_r ?_ | refine blk_e ?_ | refine blk_o (by decide) ?_ | refine cp_t ?_ | refine cp_f ?_
    | ((with_reducible apply vCond_x); (focus (simp only [lv, E1, E2, E5, ET, T, mvB, bxB, sxB, rxB, fwd, fwds, inv, mOk, EB, simprocAttr, DBA19, St.x, ← chs_app]; with_reducible first | exact Eq.refl (bo true) | exact Eq.refl (bo false))))
    | ((with_reducible refine And.intro ?_ ?_); (focus (try omega)))
  · rename_i a1 a2
    have hk2 : k < (s.undo ++ s.redo).length := by omega
    refine Kl_n ⟨(k + 1, n + ((s.undo ++ s.redo).getD k noCh).gone.length + ((s.undo ++ s.redo).getD k noCh).came.length), ⟨by dsimp only; omega, by dsimp only; omega, by dsimp only; omega, ?_⟩, by dsimp only; omega, by simp only [Int.natCast_add, Int.natCast_one]⟩
    dsimp only
    rw [hb, drop_getD hk2]
    simp only [bulkL, if_pos a2]
  · rename_i a1 a2
    have hk2 : k < (s.undo ++ s.redo).length := by omega
    refine Kf_r ?_
    simp only [Tryz.f4, E4, E3, E2, E5, rawX, deadX, ET, T, EB, simprocAttr, DBA19, St.x, ← chs_app, X.p.injEq, X.tup.injEq, PX.one.injEq, PX.agg.injEq, TV.v.injEq, TV.sr.injEq, SV.raw.injEq, SV.sl.injEq, Value.bool.injEq, Value.int.injEq, List.cons.injEq, Prod.mk.injEq, true_and, and_true, and_self]
    unfold bulkF
    rw [if_neg (by omega), hb, drop_getD hk2]
    simp only [bulkL, if_neg a2]
  · refine Kf_r ?_
    simp only [Tryz.f4, E4, E3, E2, E5, rawX, deadX, ET, T, EB, simprocAttr, DBA19, St.x, ← chs_app, X.p.injEq, X.tup.injEq, PX.one.injEq, PX.agg.injEq, TV.v.injEq, TV.sr.injEq, SV.raw.injEq, SV.sl.injEq, Value.bool.injEq, Value.int.injEq, List.cons.injEq, Prod.mk.injEq, true_and, and_true, and_self]
    unfold bulkF
    rw [if_neg (by omega), hb, List.drop_of_length_le (by omega)]
    simp only [bulkL]
end Go.Proofs.YtdpflafjfkooeaaGreatDoorG
/- U24: what came in: changes, states, operations; bounds (A29's and H22's, without layer 22's laws). -/
namespace Go.Proofs.YtdpflafjfkooeaaGreatDoorG
open Go Go.RowKit Go.Proofs Go.Proofs.YtdpflafjfkooeaaGreatDoor
set_option linter.unusedVariables false
set_option linter.unusedSimpArgs false
theorem bulkL_ge : ∀ (l : List Ch) (n : Int), n ≤ bulkL l n
  | [], n => Int.le_refl _
  | c :: r, n => by
    unfold bulkL
    split
    · have := bulkL_ge r (n + c.gone.length + c.came.length); omega
    · exact Int.le_refl _
theorem bulkL_small : ∀ (l : List Ch) (n : Int), bulkL l n ≤ 20000 → 0 ≤ n → ∀ c ∈ l, c.gone.length ≤ 20000 ∧ c.came.length ≤ 20000
  | [], n, _, _ => by simp
  | c :: r, n, h, h0 => by
    unfold bulkL at h
    split at h
    · have h1 := bulkL_ge r (n + c.gone.length + c.came.length)
      intro x hx
      rcases List.mem_cons.1 hx with rfl | hx
      · omega
      · exact bulkL_small r _ h (by omega) x hx
    · omega
theorem bulk_small {s : St} (h : bulkF s ≤ 20000) : s.text.length ≤ 20000 ∧ s.undo.length ≤ 1000 ∧ s.redo.length ≤ 1000 ∧ ∀ c ∈ s.undo ++ s.redo, c.gone.length ≤ 20000 ∧ c.came.length ≤ 20000 := by
  unfold bulkF at h
  split at h
  · omega
  · have := bulkL_ge (s.undo ++ s.redo) s.text.length
    exact ⟨by omega, by omega, by omega, bulkL_small _ _ h (by omega)⟩
structure Ch.upto (n : Nat) (c : Ch) : Prop where
  gone : c.gone.length ≤ n
  came : c.came.length ≤ n
  rgone : R32s c.gone
  rcame : R32s c.came
structure Opn.upto (n : Nat) (o : Opn) : Prop where
  len : o.text.length ≤ n
  run : R32s o.text
structure St.upto (n : Nat) (s : St) : Prop where
  len : s.text.length ≤ n
  run : R32s s.text
  undo : ∀ c ∈ s.undo, c.upto n
  redo : ∀ c ∈ s.redo, c.upto n
  ulen : s.undo.length ≤ n
  rlen : s.redo.length ≤ n
theorem upto_ok {s : St} (hs : s.upto 1048576) (h : bulkF s ≤ 20000) : s.ok := by
  obtain ⟨h1, h2, h3, h4⟩ := bulk_small h
  have hu : ∀ c ∈ s.undo, c.ok := fun c hc => ⟨by have := (h4 c (List.mem_append_left _ hc)).1; omega, by have := (h4 c (List.mem_append_left _ hc)).2; omega, (hs.undo c hc).rgone, (hs.undo c hc).rcame⟩
  have hr : ∀ c ∈ s.redo, c.ok := fun c hc => ⟨by have := (h4 c (List.mem_append_right _ hc)).1; omega, by have := (h4 c (List.mem_append_right _ hc)).2; omega, (hs.redo c hc).rgone, (hs.redo c hc).rcame⟩
  exact ⟨by omega, hs.run, hu, hr, by omega, by omega⟩
def Opn.cells (o : Opn) : List SV := [.raw (.int .i64 o.kind), .raw (.int .i64 o.at_), .raw (.int .i64 o.to_), .sl 1 (rn o.text)]
def Ch.cells (c : Ch) : List SV := [.raw (.int .i64 c.at_), .sl 1 (rn c.gone), .sl 1 (rn c.came)]
def St.cells (s : St) : List SV := [.sl 1 (rn s.text), .sl 3 (chs s.undo), .sl 3 (chs s.redo)]
theorem r32 {m : Int} (h : IntKind.i32.min ≤ m ∧ m ≤ IntKind.i32.max) : R32 m := by
  have h1 : IntKind.i32.min = -2147483648 := by decide
  have h2 : IntKind.i32.max = 2147483647 := by decide
  rw [h1, h2] at h; exact h
theorem typ_runes {n : Nat} {xs : List SV} (h : Typ T n 24 xs) : ∃ l : List Int, xs = [.sl 1 (rn l)] ∧ R32s l ∧ l.length ≤ n := by
  obtain ⟨l, rfl, h1, h2⟩ := h.ints (by rfl) (by rfl)
  exact ⟨l, rfl, fun m hm => r32 (h1 m hm), h2⟩
theorem typ_change {n : Nat} {xs : List SV} (h : Typ T n 47 xs) : ∃ c : Ch, xs = c.cells ∧ c.upto n := by
  obtain ⟨xss, rfl, ha⟩ := h.struct' (by rfl)
  obtain ⟨x0, r0, rfl, h0, ha⟩ := all2_c1 ha
  obtain ⟨x1, r1, rfl, h1, ha⟩ := all2_c1 ha
  obtain ⟨x2, r2, rfl, h2, ha⟩ := all2_c1 ha
  have := all2_n ha
  subst this
  obtain ⟨m, rfl, _⟩ := h0.int' (by rfl)
  obtain ⟨l1, rfl, q1, q2⟩ := typ_runes h1
  obtain ⟨l2, rfl, q3, q4⟩ := typ_runes h2
  exact ⟨⟨m, l1, l2⟩, rfl, q2, q4, q1, q3⟩
theorem typ_op {n : Nat} {xs : List SV} (h : Typ T n 31 xs) : ∃ o : Opn, xs = o.cells ∧ o.upto n := by
  obtain ⟨xss, rfl, ha⟩ := h.struct' (by rfl)
  obtain ⟨x0, r0, rfl, h0, ha⟩ := all2_c1 ha
  obtain ⟨x1, r1, rfl, h1, ha⟩ := all2_c1 ha
  obtain ⟨x2, r2, rfl, h2, ha⟩ := all2_c1 ha
  obtain ⟨x3, r3, rfl, h3, ha⟩ := all2_c1 ha
  have := all2_n ha
  subst this
  obtain ⟨m0, rfl, _⟩ := h0.int' (by rfl)
  obtain ⟨m1, rfl, _⟩ := h1.int' (by rfl)
  obtain ⟨m2, rfl, _⟩ := h2.int' (by rfl)
  obtain ⟨l, rfl, q1, q2⟩ := typ_runes h3
  exact ⟨⟨m0, m1, m2, l⟩, rfl, q2, q1⟩
theorem typ_changes {n : Nat} {xs : List SV} (h : Typ T n 25 xs) : ∃ l : List Ch, xs = [.sl 3 (chs l)] ∧ l.length ≤ n ∧ ∀ c ∈ l, c.upto n := by
  obtain ⟨xss, rfl, hl, hx⟩ := h.sl' (by rfl) (by rfl)
  obtain ⟨l, rfl, hp⟩ := choose_l (p := fun c => Ch.upto n c) (f := Ch.cells) fun ys hys => typ_change (hx ys hys)
  exact ⟨l, by rw [flat_map]; rfl, by simpa using hl, hp⟩
theorem typ_state {n : Nat} {xs : List SV} (h : Typ T n 27 xs) : ∃ s : St, xs = s.cells ∧ s.upto n := by
  obtain ⟨xss, rfl, ha⟩ := h.struct' (by rfl)
  obtain ⟨x0, r0, rfl, h0, ha⟩ := all2_c1 ha
  obtain ⟨x1, r1, rfl, h1, ha⟩ := all2_c1 ha
  obtain ⟨x2, r2, rfl, h2, ha⟩ := all2_c1 ha
  have := all2_n ha
  subst this
  obtain ⟨l0, rfl, q1, q2⟩ := typ_runes h0
  obtain ⟨l1, rfl, q3, q4⟩ := typ_changes h1
  obtain ⟨l2, rfl, q5, q6⟩ := typ_changes h2
  exact ⟨⟨l0, l1, l2⟩, rfl, q2, q1, q4, q6, q3, q5⟩
end Go.Proofs.YtdpflafjfkooeaaGreatDoorG
