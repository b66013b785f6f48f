/- YtdpflafjfkooeaaGreatDoorZ21: a part of the proof, joined of its texts. -/
import Derived.Test.YtdpflafjfkooeaaGreatDoorZ20
namespace Go.Proofs.YtdpflafjfkooeaaGreatDoorG
open Go Go.RowKit Go.Proofs
set_option linter.unusedSimpArgs false
set_option linter.unusedVariables false
theorem DBA27 : type_of% (And.intro @rn_len (And.intro @chs_len (And.intro @chs_cnt (And.intro @List.length_map.{0,0} (And.intro @cut_rn (And.intro @take_drop_len (And.intro @List.length_append.{0} (And.intro @List.length_take.{0} (And.intro @List.length_drop.{0} (And.intro @Int.sub_zero (And.intro @List.size_toArray.{0} @List.length_nil.{0}))))))))))) := ⟨@rn_len, @chs_len, @chs_cnt, @List.length_map.{0,0}, @cut_rn, @take_drop_len, @List.length_append.{0}, @List.length_take.{0}, @List.length_drop.{0}, @Int.sub_zero, @List.size_toArray.{0}, @List.length_nil.{0}⟩
set_option maxRecDepth 10000 in
set_option maxHeartbeats 4000000 in
theorem goes_ok : GoesOk := by
  intro t l back ht hl hln
  generalize hW : (if back then l.map Ch.inv else l) = W
  refine fn_ok' T_ok (orc_ok _) mixed Tryz.func73 rfl (by kernel_rfl) (lv [[1, 3, 5, 6], [3, 5, 6, 10], [3, 5, 6, 8], [3, 5, 6, 8, 13], [3, 5, 6, 8], [3, 5, 6, 8, 31], [6], [3, 5, 6, 1000003], [3, 5, 6, 37], [6], [6]]) 38 rfl (by simp) rfl (by simp [X.all, PX.all, TV.rawR, SV.isRaw]) ?_
  simp only [argsG, Nat.zero_add, Nat.reduceAdd]
  repeat' first
    | ((first
        | ((with_reducible refine vR_cons (by decide) ?_); generalize hk : KtR _ _ _ _ _ _ _ _ _ _ = k)
        | ((first
        | with_reducible refine vOps_cons' ?_
        | ((with_reducible apply orc_i); (focus (exact backward_ok _; done)))) <;> generalize hk : Kt _ _ _ _ _ _ _ _ _ = k)) <;> (simp only [Tryz.f73, lv, E1, E2, E5, ET, T, mvB, bxB, sxB, rxB, fwd, fwds, inv, mOk, EB, simprocAttr, DBA27, Ch.x, Ch.inv, Ch.rx, Ch.rr, Opn.x, St.x, ← rn_app]; (try simp (disch := omega) only [wrap_in, Int.toNat_natCast, tv_rn, tv_ch0, tv_ch1, tv_ch2]); subst hk))
    | with_reducible first | refine Kt_p ?_ | refine Kt_i (by kernel_rfl) ?_ | refine Kr_f (by kernel_rfl) ?_
    | (with_reducible refine Kr_t ?_; simp only [List.length_append, List.length_cons, List.length_nil, Nat.reduceAdd, Nat.reduceSub, List.drop_succ_cons, List.drop_zero])
    | with_reducible first | refine vR_nil ?_ | refine KtR_i (by kernel_rfl) ?_ | refine KrR_i (by kernel_rfl) ?_ | refine vR_skip (by decide) ?_
    | ((with_reducible refine vB_i ?_ ?_) <;> intro _ <;> (first | (exfalso; omega) | (exact absurd trivial ‹¬True›) | (try dsimp only [])))
    | ((with_reducible refine vOps_nil' ?_); refine Kr_i (by kernel_rfl) ?_; generalize hk : plain _ _ = G; simp only [lv, E3, E2, E5, rawX, deadX, EB, simprocAttr, DBA27, Ch.x, Ch.inv, Ch.rx, Ch.rr, Opn.x, St.x, ← rn_app] at hk; subst hk)
    | with_reducible refine vSeq_i ?_
    | with_reducible first | refine vRegion_i (by kernel_rfl) ?_ | refine Kv_i ?_
    | ((with_reducible apply vStrK_i); (focus (rfl; done)))
    | ((with_reducible refine imp_i ?_); intro _)
    | with_reducible first | refine Ks_n ?_ | refine Ks_r ?_ | refine Ks_e ?_ | refine Kl_e ?_ | refine Kx_n ?_ | refine Kl_r ?_ | refine vRet_i ?_ | refine vSkip_i ?_ | refine vExit_i ?_ | refine vBlock_i ?_ | refine Ks_p ?_ | refine Kl_p ?_ | refine blk_p ?_ | exact Kb_p | refine vGoto_i ?_ | refine vLabel_i ?_ | refine Ks_g ?_ | refine Kl_g ?_ | refine blk_g ?_ | refine jmp_g ?_ | refine jmp_n ?_ | refine jmp_r ?_ | refine nog_n ?_ | refine nog_r ?_ | refine blk_n ?_ | refine blk_r ?_ | refine blk_e ?_ | refine blk_o (by decide) ?_ | refine cp_t ?_ | refine cp_f ?_
    | ((with_reducible apply vCond_x); (focus (simp only [lv, E1, E2, E5, ET, T, mvB, bxB, sxB, rxB, fwd, fwds, inv, mOk, EB, simprocAttr, DBA27, Ch.x, Ch.inv, Ch.rx, Ch.rr, Opn.x, St.x, ← rn_app]; with_reducible first | exact Eq.refl (bo true) | exact Eq.refl (bo false))))
    | ((with_reducible refine And.intro ?_ ?_); (focus (try omega)))
  refine vRange_s (gf := 87) (caps := [.pt [.sl 3 (chs l)] 0]) ?_ _ (orc_it (chIter l hln)) ?_ ?_ [11, 12, 8, 13, 14, 15, 16, 17, 18, 19, 20, 21, 22, 23, 24, 25, 26, 27, 28, 29, 30, 31, 32, 33, 34, 35, 36, 37] ?_ (fun cur : List Int => [(.t 3, .t (.p (.one (.pr 0 0)))), (.t 5, .t (.p (.one (.pr 1 0)))), (.t 6, .t (.p (.one (.pr 2 0)))), (.box 0, .box 24 [.v (.sl 1 (rn cur))]), (.box 1, .box 4 [.v (.raw (.bool back))]), (.box 2, .box 4 [.v (.raw (.bool false))])])
    (fun k cur => k ≤ l.length ∧ cur.length ≤ 100000 ∧ walkN W l.length t = walkN W (l.length - k) cur) t [10] ?_ ?_ ?_ ?_
  · rfl
  · intro xs hx
    obtain ⟨k, _, rfl⟩ := List.mem_map.1 hx
    rfl
  · decide
  · rfl
  · exact ⟨Nat.zero_le _, ht, rfl⟩
  · rfl
  · intro k cur xs hk hp
    obtain ⟨hk0, hcl, hw⟩ := hp
    have hkl : k < l.length := by
      have := (List.getElem?_eq_some_iff.1 hk).1
      simpa using this
    rw [List.getElem?_map, List.getElem?_range hkl, Option.map_some] at hk
    injection hk with hk
    subst hk
    have hcm : (l.getD (l.length - 1 - k) noCh).ok := hl _ (mem_getD (by omega))
    have hwe : W.getD (l.length - 1 - k) noCh = if back then (l.getD (l.length - 1 - k) noCh).inv else l.getD (l.length - 1 - k) noCh := by
      rw [← hW]
      cases back
      · rfl
      · exact getD_inv _ _
    generalize hc : l.getD (l.length - 1 - k) noCh = c at hcm hwe ⊢
    have hst := walk_step W (l.length - 1 - k) cur
    rw [show l.length - 1 - k + 1 = l.length - k by omega, ← hw, hwe] at hst
    clear hw
    show vCode _ _ _ _ _ [(.t 12, .t c.x), (.t 11, .t (i64 ((l.length : Int) - 1 - (k : Nat)))), (.t 3, .t (.p (.one (.pr 0 0)))), (.t 5, .t (.p (.one (.pr 1 0)))), (.t 6, .t (.p (.one (.pr 2 0)))), (.box 0, .box 24 [.v (.sl 1 (rn cur))]), (.box 1, .box 4 [.v (.raw (.bool back))]), (.box 2, .box 4 [.v (.raw (.bool false))])] _
    cases back
    · have hst' := hst
      simp only [Bool.false_eq_true, if_false, if_true, Ch.good] at hst'
      have hok := hcm
      by_cases k1 : (c).fits cur
      case neg =>
        have f1 : CallOk Tryz.prog 84 [sl (rn cur), (c).x] (bo false) [] true := by
          have := fits_ok cur (c) (by omega) hok.small
          rwa [decide_eq_false k1] at this
        repeat' first
          | ((first
              | ((with_reducible refine vR_cons (by decide) ?_); generalize hk : KtR _ _ _ _ _ _ _ _ _ _ = k)
              | ((first
              | with_reducible refine vOps_cons' ?_
              | ((with_reducible apply orc_i); (focus (exact f1; done)))) <;> generalize hk : Kt _ _ _ _ _ _ _ _ _ = k)) <;> (simp only [Tryz.f73, lv, E1, E2, E5, ET, T, mvB, bxB, sxB, rxB, fwd, fwds, inv, mOk, EB, simprocAttr, DBA27, Ch.x, Ch.inv, Ch.rx, Ch.rr, Opn.x, St.x, ← rn_app]; (try simp (disch := omega) only [wrap_in, Int.toNat_natCast, tv_rn, tv_ch0, tv_ch1, tv_ch2]); subst hk))
          | with_reducible first | refine Kt_p ?_ | refine Kt_i (by kernel_rfl) ?_ | refine Kr_f (by kernel_rfl) ?_
          | (with_reducible refine Kr_t ?_; simp only [List.length_append, List.length_cons, List.length_nil, Nat.reduceAdd, Nat.reduceSub, List.drop_succ_cons, List.drop_zero])
          | with_reducible first | refine vR_nil ?_ | refine KtR_i (by kernel_rfl) ?_ | refine KrR_i (by kernel_rfl) ?_ | refine vR_skip (by decide) ?_
          | ((with_reducible refine vB_i ?_ ?_) <;> intro _ <;> (first | (exfalso; omega) | (exact absurd trivial ‹¬True›) | (try dsimp only [])))
          | ((with_reducible refine vOps_nil' ?_); refine Kr_i (by kernel_rfl) ?_; generalize hk : plain _ _ = G; simp only [lv, E3, E2, E5, rawX, deadX, EB, simprocAttr, DBA27, Ch.x, Ch.inv, Ch.rx, Ch.rr, Opn.x, St.x, ← rn_app] at hk; subst hk)
          | with_reducible refine vSeq_i ?_
          | with_reducible first | refine vRegion_i (by kernel_rfl) ?_ | refine Kv_i ?_
          | ((with_reducible apply vStrK_i); (focus (rfl; done)))
          | ((with_reducible refine imp_i ?_); intro _)
          | with_reducible first | refine Ks_n ?_ | refine Ks_r ?_ | refine Ks_e ?_ | refine Kl_e ?_ | refine Kx_n ?_ | refine Kl_r ?_ | refine vRet_i ?_ | refine vSkip_i ?_ | refine vExit_i ?_ | refine vBlock_i ?_ | refine Ks_p ?_ | refine Kl_p ?_ | refine blk_p ?_ | exact Kb_p | refine vGoto_i ?_ | refine vLabel_i ?_ | refine Ks_g ?_ | refine Kl_g ?_ | refine blk_g ?_ | refine jmp_g ?_ | refine jmp_n ?_ | refine jmp_r ?_ | refine nog_n ?_ | refine nog_r ?_ | refine blk_n ?_ | refine blk_r ?_ | refine blk_e ?_ | refine blk_o (by decide) ?_ | refine cp_t ?_ | refine cp_f ?_
          | ((with_reducible apply vCond_x); (focus (simp only [lv, E1, E2, E5, ET, T, mvB, bxB, sxB, rxB, fwd, fwds, inv, mOk, EB, simprocAttr, DBA27, Ch.x, Ch.inv, Ch.rx, Ch.rr, Opn.x, St.x, ← rn_app]; with_reducible first | exact Eq.refl (bo true) | exact Eq.refl (bo false))))
          | ((with_reducible refine And.intro ?_ ?_); (focus (try omega)))
        refine Ky_r ?_
        refine Kf_r ?_
        simp only [Tryz.f73, E4, E3, E2, E5, rawX, deadX, ET, T, EB, simprocAttr, DBA27, Ch.x, Ch.inv, Ch.rx, Ch.rr, Opn.x, St.x, ← rn_app, dropT, List.contains_cons, List.contains_nil, Bool.or_false, Bool.or_true, Bool.true_or, Bool.false_or, X.p.injEq, X.tup.injEq, PX.one.injEq, PX.agg.injEq, TV.v.injEq, TV.sr.injEq, SV.raw.injEq, SV.sl.injEq, Value.bool.injEq, Value.int.injEq, List.cons.injEq, Prod.mk.injEq, true_and, and_true, and_self]
        rw [hst', decide_eq_false (fun h => k1 h.1.2.2)]
        rfl
      have f1 : CallOk Tryz.prog 84 [sl (rn cur), (c).x] (bo true) [] true := by
        have := fits_ok cur (c) (by omega) hok.small
        rwa [decide_eq_true k1] at this
      by_cases k2 : scal (c).gone
      case neg =>
        have f2 : CallOk Tryz.prog 72 [sl (rn (c).gone)] (bo false) [] true := by
          have := scal_ok (c).gone hok.rgone (Nat.le_trans hok.gone (by omega))
          rwa [decide_eq_false k2] at this
        repeat' first
          | ((first
              | ((with_reducible refine vR_cons (by decide) ?_); generalize hk : KtR _ _ _ _ _ _ _ _ _ _ = k)
              | ((first
              | with_reducible refine vOps_cons' ?_
              | ((with_reducible apply orc_i); (focus (exact f1; done)))
              | ((with_reducible apply orc_i); (focus (exact f2; done)))) <;> generalize hk : Kt _ _ _ _ _ _ _ _ _ = k)) <;> (simp only [Tryz.f73, lv, E1, E2, E5, ET, T, mvB, bxB, sxB, rxB, fwd, fwds, inv, mOk, EB, simprocAttr, DBA27, Ch.x, Ch.inv, Ch.rx, Ch.rr, Opn.x, St.x, ← rn_app]; (try simp (disch := omega) only [wrap_in, Int.toNat_natCast, tv_rn, tv_ch0, tv_ch1, tv_ch2]); subst hk))
          | with_reducible first | refine Kt_p ?_ | refine Kt_i (by kernel_rfl) ?_ | refine Kr_f (by kernel_rfl) ?_
          | (with_reducible refine Kr_t ?_; simp only [List.length_append, List.length_cons, List.length_nil, Nat.reduceAdd, Nat.reduceSub, List.drop_succ_cons, List.drop_zero])
          | with_reducible first | refine vR_nil ?_ | refine KtR_i (by kernel_rfl) ?_ | refine KrR_i (by kernel_rfl) ?_ | refine vR_skip (by decide) ?_
          | ((with_reducible refine vB_i ?_ ?_) <;> intro _ <;> (first | (exfalso; omega) | (exact absurd trivial ‹¬True›) | (try dsimp only [])))
          | ((with_reducible refine vOps_nil' ?_); refine Kr_i (by kernel_rfl) ?_; generalize hk : plain _ _ = G; simp only [lv, E3, E2, E5, rawX, deadX, EB, simprocAttr, DBA27, Ch.x, Ch.inv, Ch.rx, Ch.rr, Opn.x, St.x, ← rn_app] at hk; subst hk)
          | with_reducible refine vSeq_i ?_
          | with_reducible first | refine vRegion_i (by kernel_rfl) ?_ | refine Kv_i ?_
          | ((with_reducible apply vStrK_i); (focus (rfl; done)))
          | ((with_reducible refine imp_i ?_); intro _)
          | with_reducible first | refine Ks_n ?_ | refine Ks_r ?_ | refine Ks_e ?_ | refine Kl_e ?_ | refine Kx_n ?_ | refine Kl_r ?_ | refine vRet_i ?_ | refine vSkip_i ?_ | refine vExit_i ?_ | refine vBlock_i ?_ | refine Ks_p ?_ | refine Kl_p ?_ | refine blk_p ?_ | exact Kb_p | refine vGoto_i ?_ | refine vLabel_i ?_ | refine Ks_g ?_ | refine Kl_g ?_ | refine blk_g ?_ | refine jmp_g ?_ | refine jmp_n ?_ | refine jmp_r ?_ | refine nog_n ?_ | refine nog_r ?_ | refine blk_n ?_ | refine blk_r ?_ | refine blk_e ?_ | refine blk_o (by decide) ?_ | refine cp_t ?_ | refine cp_f ?_
          | ((with_reducible apply vCond_x); (focus (simp only [lv, E1, E2, E5, ET, T, mvB, bxB, sxB, rxB, fwd, fwds, inv, mOk, EB, simprocAttr, DBA27, Ch.x, Ch.inv, Ch.rx, Ch.rr, Opn.x, St.x, ← rn_app]; with_reducible first | exact Eq.refl (bo true) | exact Eq.refl (bo false))))
          | ((with_reducible refine And.intro ?_ ?_); (focus (try omega)))
        refine Ky_r ?_
        refine Kf_r ?_
        simp only [Tryz.f73, E4, E3, E2, E5, rawX, deadX, ET, T, EB, simprocAttr, DBA27, Ch.x, Ch.inv, Ch.rx, Ch.rr, Opn.x, St.x, ← rn_app, dropT, List.contains_cons, List.contains_nil, Bool.or_false, Bool.or_true, Bool.true_or, Bool.false_or, X.p.injEq, X.tup.injEq, PX.one.injEq, PX.agg.injEq, TV.v.injEq, TV.sr.injEq, SV.raw.injEq, SV.sl.injEq, Value.bool.injEq, Value.int.injEq, List.cons.injEq, Prod.mk.injEq, true_and, and_true, and_self]
        rw [hst', decide_eq_false (fun h => k2 h.1.1)]
        rfl
      have f2 : CallOk Tryz.prog 72 [sl (rn (c).gone)] (bo true) [] true := by
        have := scal_ok (c).gone hok.rgone (Nat.le_trans hok.gone (by omega))
        rwa [decide_eq_true k2] at this
      by_cases k3 : scal (c).came
      case neg =>
        have f3 : CallOk Tryz.prog 72 [sl (rn (c).came)] (bo false) [] true := by
          have := scal_ok (c).came hok.rcame (Nat.le_trans hok.came (by omega))
          rwa [decide_eq_false k3] at this
        repeat' first
          | ((first
              | ((with_reducible refine vR_cons (by decide) ?_); generalize hk : KtR _ _ _ _ _ _ _ _ _ _ = k)
              | ((first
              | with_reducible refine vOps_cons' ?_
              | ((with_reducible apply orc_i); (focus (exact f1; done)))
              | ((with_reducible apply orc_i); (focus (exact f2; done)))
              | ((with_reducible apply orc_i); (focus (exact f3; done)))) <;> generalize hk : Kt _ _ _ _ _ _ _ _ _ = k)) <;> (simp only [Tryz.f73, lv, E1, E2, E5, ET, T, mvB, bxB, sxB, rxB, fwd, fwds, inv, mOk, EB, simprocAttr, DBA27, Ch.x, Ch.inv, Ch.rx, Ch.rr, Opn.x, St.x, ← rn_app]; (try simp (disch := omega) only [wrap_in, Int.toNat_natCast, tv_rn, tv_ch0, tv_ch1, tv_ch2]); subst hk))
          | with_reducible first | refine Kt_p ?_ | refine Kt_i (by kernel_rfl) ?_ | refine Kr_f (by kernel_rfl) ?_
          | (with_reducible refine Kr_t ?_; simp only [List.length_append, List.length_cons, List.length_nil, Nat.reduceAdd, Nat.reduceSub, List.drop_succ_cons, List.drop_zero])
          | with_reducible first | refine vR_nil ?_ | refine KtR_i (by kernel_rfl) ?_ | refine KrR_i (by kernel_rfl) ?_ | refine vR_skip (by decide) ?_
          | ((with_reducible refine vB_i ?_ ?_) <;> intro _ <;> (first | (exfalso; omega) | (exact absurd trivial ‹¬True›) | (try dsimp only [])))
          | ((with_reducible refine vOps_nil' ?_); refine Kr_i (by kernel_rfl) ?_; generalize hk : plain _ _ = G; simp only [lv, E3, E2, E5, rawX, deadX, EB, simprocAttr, DBA27, Ch.x, Ch.inv, Ch.rx, Ch.rr, Opn.x, St.x, ← rn_app] at hk; subst hk)
          | with_reducible refine vSeq_i ?_
          | with_reducible first | refine vRegion_i (by kernel_rfl) ?_ | refine Kv_i ?_
          | ((with_reducible apply vStrK_i); (focus (rfl; done)))
          | ((with_reducible refine imp_i ?_); intro _)
          | with_reducible first | refine Ks_n ?_ | refine Ks_r ?_ | refine Ks_e ?_ | refine Kl_e ?_ | refine Kx_n ?_ | refine Kl_r ?_ | refine vRet_i ?_ | refine vSkip_i ?_ | refine vExit_i ?_ | refine vBlock_i ?_ | refine Ks_p ?_ | refine Kl_p ?_ | refine blk_p ?_ | exact Kb_p | refine vGoto_i ?_ | refine vLabel_i ?_ | refine Ks_g ?_ | refine Kl_g ?_ | refine blk_g ?_ | refine jmp_g ?_ | refine jmp_n ?_ | refine jmp_r ?_ | refine nog_n ?_ | refine nog_r ?_ | refine blk_n ?_ | refine blk_r ?_ | refine blk_e ?_ | refine blk_o (by decide) ?_ | refine cp_t ?_ | refine cp_f ?_
          | ((with_reducible apply vCond_x); (focus (simp only [lv, E1, E2, E5, ET, T, mvB, bxB, sxB, rxB, fwd, fwds, inv, mOk, EB, simprocAttr, DBA27, Ch.x, Ch.inv, Ch.rx, Ch.rr, Opn.x, St.x, ← rn_app]; with_reducible first | exact Eq.refl (bo true) | exact Eq.refl (bo false))))
          | ((with_reducible refine And.intro ?_ ?_); (focus (try omega)))
        refine Ky_r ?_
        refine Kf_r ?_
        simp only [Tryz.f73, E4, E3, E2, E5, rawX, deadX, ET, T, EB, simprocAttr, DBA27, Ch.x, Ch.inv, Ch.rx, Ch.rr, Opn.x, St.x, ← rn_app, dropT, List.contains_cons, List.contains_nil, Bool.or_false, Bool.or_true, Bool.true_or, Bool.false_or, X.p.injEq, X.tup.injEq, PX.one.injEq, PX.agg.injEq, TV.v.injEq, TV.sr.injEq, SV.raw.injEq, SV.sl.injEq, Value.bool.injEq, Value.int.injEq, List.cons.injEq, Prod.mk.injEq, true_and, and_true, and_self]
        rw [hst', decide_eq_false (fun h => k3 h.1.2.1)]
        rfl
      have f3 : CallOk Tryz.prog 72 [sl (rn (c).came)] (bo true) [] true := by
        have := scal_ok (c).came hok.rcame (Nat.le_trans hok.came (by omega))
        rwa [decide_eq_true k3] at this
      have hlen := Ch.done_len k1
      have f4 := done_ok cur (c) k1.1 (by have := k1.2.2.1; omega) (by have := hok.came; omega)
      rw [if_pos ⟨k2, k3, k1⟩] at hst'
      repeat' first
        | ((first
            | ((with_reducible refine vR_cons (by decide) ?_); generalize hk : KtR _ _ _ _ _ _ _ _ _ _ = k)
            | ((first
            | with_reducible refine vOps_cons' ?_
            | ((with_reducible apply orc_i); (focus (exact f1; done)))
            | ((with_reducible apply orc_i); (focus (exact f2; done)))
            | ((with_reducible apply orc_i); (focus (exact f3; done)))
            | ((with_reducible apply orc_i); (focus (exact f4; done)))) <;> generalize hk : Kt _ _ _ _ _ _ _ _ _ = k)) <;> (simp only [Tryz.f73, lv, E1, E2, E5, ET, T, mvB, bxB, sxB, rxB, fwd, fwds, inv, mOk, EB, simprocAttr, DBA27, Ch.x, Ch.inv, Ch.rx, Ch.rr, Opn.x, St.x, ← rn_app]; (try simp (disch := omega) only [wrap_in, Int.toNat_natCast, tv_rn, tv_ch0, tv_ch1, tv_ch2]); subst hk))
        | with_reducible first | refine Kt_p ?_ | refine Kt_i (by kernel_rfl) ?_ | refine Kr_f (by kernel_rfl) ?_
        | (with_reducible refine Kr_t ?_; simp only [List.length_append, List.length_cons, List.length_nil, Nat.reduceAdd, Nat.reduceSub, List.drop_succ_cons, List.drop_zero])
        | with_reducible first | refine vR_nil ?_ | refine KtR_i (by kernel_rfl) ?_ | refine KrR_i (by kernel_rfl) ?_ | refine vR_skip (by decide) ?_
        | ((with_reducible refine vB_i ?_ ?_) <;> intro _ <;> (first | (exfalso; omega) | (exact absurd trivial ‹¬True›) | (try dsimp only [])))
        | ((with_reducible refine vOps_nil' ?_); refine Kr_i (by kernel_rfl) ?_; generalize hk : plain _ _ = G; simp only [lv, E3, E2, E5, rawX, deadX, EB, simprocAttr, DBA27, Ch.x, Ch.inv, Ch.rx, Ch.rr, Opn.x, St.x, ← rn_app] at hk; subst hk)
        | with_reducible refine vSeq_i ?_
        | with_reducible first | refine vRegion_i (by kernel_rfl) ?_ | refine Kv_i ?_
        | ((with_reducible apply vStrK_i); (focus (rfl; done)))
        | ((with_reducible refine imp_i ?_); intro _)
        | with_reducible first | refine Ks_n ?_ | refine Ks_r ?_ | refine Ks_e ?_ | refine Kl_e ?_ | refine Kx_n ?_ | refine Kl_r ?_ | refine vRet_i ?_ | refine vSkip_i ?_ | refine vExit_i ?_ | refine vBlock_i ?_ | refine Ks_p ?_ | refine Kl_p ?_ | refine blk_p ?_ | exact Kb_p | refine vGoto_i ?_ | refine vLabel_i ?_ | refine Ks_g ?_ | refine Kl_g ?_ | refine blk_g ?_ | refine jmp_g ?_ | refine jmp_n ?_ | refine jmp_r ?_ | refine nog_n ?_ | refine nog_r ?_ | refine blk_n ?_ | refine blk_r ?_ | refine blk_e ?_ | refine blk_o (by decide) ?_ | refine cp_t ?_ | refine cp_f ?_
        | ((with_reducible apply vCond_x); (focus (simp only [lv, E1, E2, E5, ET, T, mvB, bxB, sxB, rxB, fwd, fwds, inv, mOk, EB, simprocAttr, DBA27, Ch.x, Ch.inv, Ch.rx, Ch.rr, Opn.x, St.x, ← rn_app]; with_reducible first | exact Eq.refl (bo true) | exact Eq.refl (bo false))))
        | ((with_reducible refine And.intro ?_ ?_); (focus (try omega)))
      · rename_i hgt
        change (((c).done cur).length : Int) > 4096 at hgt
        refine Ky_r ?_
        refine Kf_r ?_
        simp only [Tryz.f73, E4, E3, E2, E5, rawX, deadX, ET, T, EB, simprocAttr, DBA27, Ch.x, Ch.inv, Ch.rx, Ch.rr, Opn.x, St.x, ← rn_app, dropT, List.contains_cons, List.contains_nil, Bool.or_false, Bool.or_true, Bool.true_or, Bool.false_or, X.p.injEq, X.tup.injEq, PX.one.injEq, PX.agg.injEq, TV.v.injEq, TV.sr.injEq, SV.raw.injEq, SV.sl.injEq, Value.bool.injEq, Value.int.injEq, List.cons.injEq, Prod.mk.injEq, true_and, and_true, and_self]
        rw [hst', decide_eq_false (fun h => by omega)]
        rfl
      · rename_i hgt
        change ¬ (((c).done cur).length : Int) > 4096 at hgt
        refine Ky_n ⟨(c).done cur, ⟨by omega, by omega, ?_⟩, ?_⟩
        · rw [hst', decide_eq_true ⟨⟨k2, k3, k1⟩, by omega⟩, Bool.true_and, show l.length - (k + 1) = l.length - 1 - k by omega]
        · rfl
    · have hst' := hst
      simp only [Bool.false_eq_true, if_false, if_true, Ch.good] at hst'
      have hok := hcm.inv
      by_cases k1 : (c.inv).fits cur
      case neg =>
        have f1 : CallOk Tryz.prog 84 [sl (rn cur), (c.inv).x] (bo false) [] true := by
          have := fits_ok cur (c.inv) (by omega) hok.small
          rwa [decide_eq_false k1] at this
        repeat' first
          | ((first
              | ((with_reducible refine vR_cons (by decide) ?_); generalize hk : KtR _ _ _ _ _ _ _ _ _ _ = k)
              | ((first
              | with_reducible refine vOps_cons' ?_
              | ((with_reducible apply orc_i); (focus (exact inverse_ok c hcm.small; done)))
              | ((with_reducible apply orc_i); (focus (exact f1; done)))) <;> generalize hk : Kt _ _ _ _ _ _ _ _ _ = k)) <;> (simp only [Tryz.f73, lv, E1, E2, E5, ET, T, mvB, bxB, sxB, rxB, fwd, fwds, inv, mOk, EB, simprocAttr, DBA27, Ch.x, Ch.inv, Ch.rx, Ch.rr, Opn.x, St.x, ← rn_app]; (try simp (disch := omega) only [wrap_in, Int.toNat_natCast, tv_rn, tv_ch0, tv_ch1, tv_ch2]); subst hk))
          | with_reducible first | refine Kt_p ?_ | refine Kt_i (by kernel_rfl) ?_ | refine Kr_f (by kernel_rfl) ?_
          | (with_reducible refine Kr_t ?_; simp only [List.length_append, List.length_cons, List.length_nil, Nat.reduceAdd, Nat.reduceSub, List.drop_succ_cons, List.drop_zero])
          | with_reducible first | refine vR_nil ?_ | refine KtR_i (by kernel_rfl) ?_ | refine KrR_i (by kernel_rfl) ?_ | refine vR_skip (by decide) ?_
          | ((with_reducible refine vB_i ?_ ?_) <;> intro _ <;> (first | (exfalso; omega) | (exact absurd trivial ‹¬True›) | (try dsimp only [])))
          | ((with_reducible refine vOps_nil' ?_); refine Kr_i (by kernel_rfl) ?_; generalize hk : plain _ _ = G; simp only [lv, E3, E2, E5, rawX, deadX, EB, simprocAttr, DBA27, Ch.x, Ch.inv, Ch.rx, Ch.rr, Opn.x, St.x, ← rn_app] at hk; subst hk)
          | with_reducible refine vSeq_i ?_
          | with_reducible first | refine vRegion_i (by kernel_rfl) ?_ | refine Kv_i ?_
          | ((with_reducible apply vStrK_i); (focus (rfl; done)))
          | ((with_reducible refine imp_i ?_); intro _)
          | with_reducible first | refine Ks_n ?_ | refine Ks_r ?_ | refine Ks_e ?_ | refine Kl_e ?_ | refine Kx_n ?_ | refine Kl_r ?_ | refine vRet_i ?_ | refine vSkip_i ?_ | refine vExit_i ?_ | refine vBlock_i ?_ | refine Ks_p ?_ | refine Kl_p ?_ | refine blk_p ?_ | exact Kb_p | refine vGoto_i ?_ | refine vLabel_i ?_ | refine Ks_g ?_ | refine Kl_g ?_ | refine blk_g ?_ | refine jmp_g ?_ | refine jmp_n ?_ | refine jmp_r ?_ | refine nog_n ?_ | refine nog_r ?_ | refine blk_n ?_ | refine blk_r ?_ | refine blk_e ?_ | refine blk_o (by decide) ?_ | refine cp_t ?_ | refine cp_f ?_
          | ((with_reducible apply vCond_x); (focus (simp only [lv, E1, E2, E5, ET, T, mvB, bxB, sxB, rxB, fwd, fwds, inv, mOk, EB, simprocAttr, DBA27, Ch.x, Ch.inv, Ch.rx, Ch.rr, Opn.x, St.x, ← rn_app]; with_reducible first | exact Eq.refl (bo true) | exact Eq.refl (bo false))))
          | ((with_reducible refine And.intro ?_ ?_); (focus (try omega)))
        refine Ky_r ?_
        refine Kf_r ?_
        simp only [Tryz.f73, E4, E3, E2, E5, rawX, deadX, ET, T, EB, simprocAttr, DBA27, Ch.x, Ch.inv, Ch.rx, Ch.rr, Opn.x, St.x, ← rn_app, dropT, List.contains_cons, List.contains_nil, Bool.or_false, Bool.or_true, Bool.true_or, Bool.false_or, X.p.injEq, X.tup.injEq, PX.one.injEq, PX.agg.injEq, TV.v.injEq, TV.sr.injEq, SV.raw.injEq, SV.sl.injEq, Value.bool.injEq, Value.int.injEq, List.cons.injEq, Prod.mk.injEq, true_and, and_true, and_self]
        rw [hst', decide_eq_false (fun h => k1 h.1.2.2)]
        rfl
      have f1 : CallOk Tryz.prog 84 [sl (rn cur), (c.inv).x] (bo true) [] true := by
        have := fits_ok cur (c.inv) (by omega) hok.small
        rwa [decide_eq_true k1] at this
      by_cases k2 : scal (c.inv).gone
      case neg =>
        have f2 : CallOk Tryz.prog 72 [sl (rn (c.inv).gone)] (bo false) [] true := by
          have := scal_ok (c.inv).gone hok.rgone (Nat.le_trans hok.gone (by omega))
          rwa [decide_eq_false k2] at this
        repeat' first
          | ((first
              | ((with_reducible refine vR_cons (by decide) ?_); generalize hk : KtR _ _ _ _ _ _ _ _ _ _ = k)
              | ((first
              | with_reducible refine vOps_cons' ?_
              | ((with_reducible apply orc_i); (focus (exact inverse_ok c hcm.small; done)))
              | ((with_reducible apply orc_i); (focus (exact f1; done)))
              | ((with_reducible apply orc_i); (focus (exact f2; done)))) <;> generalize hk : Kt _ _ _ _ _ _ _ _ _ = k)) <;> (simp only [Tryz.f73, lv, E1, E2, E5, ET, T, mvB, bxB, sxB, rxB, fwd, fwds, inv, mOk, EB, simprocAttr, DBA27, Ch.x, Ch.inv, Ch.rx, Ch.rr, Opn.x, St.x, ← rn_app]; (try simp (disch := omega) only [wrap_in, Int.toNat_natCast, tv_rn, tv_ch0, tv_ch1, tv_ch2]); subst hk))
          | with_reducible first | refine Kt_p ?_ | refine Kt_i (by kernel_rfl) ?_ | refine Kr_f (by kernel_rfl) ?_
          | (with_reducible refine Kr_t ?_; simp only [List.length_append, List.length_cons, List.length_nil, Nat.reduceAdd, Nat.reduceSub, List.drop_succ_cons, List.drop_zero])
          | with_reducible first | refine vR_nil ?_ | refine KtR_i (by kernel_rfl) ?_ | refine KrR_i (by kernel_rfl) ?_ | refine vR_skip (by decide) ?_
          | ((with_reducible refine vB_i ?_ ?_) <;> intro _ <;> (first | (exfalso; omega) | (exact absurd trivial ‹¬True›) | (try dsimp only [])))
          | ((with_reducible refine vOps_nil' ?_); refine Kr_i (by kernel_rfl) ?_; generalize hk : plain _ _ = G; simp only [lv, E3, E2, E5, rawX, deadX, EB, simprocAttr, DBA27, Ch.x, Ch.inv, Ch.rx, Ch.rr, Opn.x, St.x, ← rn_app] at hk; subst hk)
          | with_reducible refine vSeq_i ?_
          | with_reducible first | refine vRegion_i (by kernel_rfl) ?_ | refine Kv_i ?_
          | ((with_reducible apply vStrK_i); (focus (rfl; done)))
          | ((with_reducible refine imp_i ?_); intro _)
          | with_reducible first | refine Ks_n ?_ | refine Ks_r ?_ | refine Ks_e ?_ | refine Kl_e ?_ | refine Kx_n ?_ | refine Kl_r ?_ | refine vRet_i ?_ | refine vSkip_i ?_ | refine vExit_i ?_ | refine vBlock_i ?_ | refine Ks_p ?_ | refine Kl_p ?_ | refine blk_p ?_ | exact Kb_p | refine vGoto_i ?_ | refine vLabel_i ?_ | refine Ks_g ?_ | refine Kl_g ?_ | refine blk_g ?_ | refine jmp_g ?_ | refine jmp_n ?_ | refine jmp_r ?_ | refine nog_n ?_ | refine nog_r ?_ | refine blk_n ?_ | refine blk_r ?_ | refine blk_e ?_ | refine blk_o (by decide) ?_ | refine cp_t ?_ | refine cp_f ?_
          | ((with_reducible apply vCond_x); (focus (simp only [lv, E1, E2, E5, ET, T, mvB, bxB, sxB, rxB, fwd, fwds, inv, mOk, EB, simprocAttr, DBA27, Ch.x, Ch.inv, Ch.rx, Ch.rr, Opn.x, St.x, ← rn_app]; with_reducible first | exact Eq.refl (bo true) | exact Eq.refl (bo false))))
          | ((with_reducible refine And.intro ?_ ?_); (focus (try omega)))
        refine Ky_r ?_
        refine Kf_r ?_
        simp only [Tryz.f73, E4, E3, E2, E5, rawX, deadX, ET, T, EB, simprocAttr, DBA27, Ch.x, Ch.inv, Ch.rx, Ch.rr, Opn.x, St.x, ← rn_app, dropT, List.contains_cons, List.contains_nil, Bool.or_false, Bool.or_true, Bool.true_or, Bool.false_or, X.p.injEq, X.tup.injEq, PX.one.injEq, PX.agg.injEq, TV.v.injEq, TV.sr.injEq, SV.raw.injEq, SV.sl.injEq, Value.bool.injEq, Value.int.injEq, List.cons.injEq, Prod.mk.injEq, true_and, and_true, and_self]
        rw [hst', decide_eq_false (fun h => k2 h.1.1)]
        rfl
      have f2 : CallOk Tryz.prog 72 [sl (rn (c.inv).gone)] (bo true) [] true := by
        have := scal_ok (c.inv).gone hok.rgone (Nat.le_trans hok.gone (by omega))
        rwa [decide_eq_true k2] at this
      by_cases k3 : scal (c.inv).came
      case neg =>
        have f3 : CallOk Tryz.prog 72 [sl (rn (c.inv).came)] (bo false) [] true := by
          have := scal_ok (c.inv).came hok.rcame (Nat.le_trans hok.came (by omega))
          rwa [decide_eq_false k3] at this
        repeat' first
          | ((first
              | ((with_reducible refine vR_cons (by decide) ?_); generalize hk : KtR _ _ _ _ _ _ _ _ _ _ = k)
              | ((first
              | with_reducible refine vOps_cons' ?_
              | ((with_reducible apply orc_i); (focus (exact inverse_ok c hcm.small; done)))
              | ((with_reducible apply orc_i); (focus (exact f1; done)))
              | ((with_reducible apply orc_i); (focus (exact f2; done)))
              | ((with_reducible apply orc_i); (focus (exact f3; done)))) <;> generalize hk : Kt _ _ _ _ _ _ _ _ _ = k)) <;> (simp only [Tryz.f73, lv, E1, E2, E5, ET, T, mvB, bxB, sxB, rxB, fwd, fwds, inv, mOk, EB, simprocAttr, DBA27, Ch.x, Ch.inv, Ch.rx, Ch.rr, Opn.x, St.x, ← rn_app]; (try simp (disch := omega) only [wrap_in, Int.toNat_natCast, tv_rn, tv_ch0, tv_ch1, tv_ch2]); subst hk))
          | with_reducible first | refine Kt_p ?_ | refine Kt_i (by kernel_rfl) ?_ | refine Kr_f (by kernel_rfl) ?_
          | (with_reducible refine Kr_t ?_; simp only [List.length_append, List.length_cons, List.length_nil, Nat.reduceAdd, Nat.reduceSub, List.drop_succ_cons, List.drop_zero])
          | with_reducible first | refine vR_nil ?_ | refine KtR_i (by kernel_rfl) ?_ | refine KrR_i (by kernel_rfl) ?_ | refine vR_skip (by decide) ?_
          | ((with_reducible refine vB_i ?_ ?_) <;> intro _ <;> (first | (exfalso; omega) | (exact absurd trivial ‹¬True›) | (try dsimp only [])))
          | ((with_reducible refine vOps_nil' ?_); refine Kr_i (by kernel_rfl) ?_; generalize hk : plain _ _ = G; simp only [lv, E3, E2, E5, rawX, deadX, EB, simprocAttr, DBA27, Ch.x, Ch.inv, Ch.rx, Ch.rr, Opn.x, St.x, ← rn_app] at hk; subst hk)
          | with_reducible refine vSeq_i ?_
          | with_reducible first | refine vRegion_i (by kernel_rfl) ?_ | refine Kv_i ?_
          | ((with_reducible apply vStrK_i); (focus (rfl; done)))
          | ((with_reducible refine imp_i ?_); intro _)
          | with_reducible first | refine Ks_n ?_ | refine Ks_r ?_ | refine Ks_e ?_ | refine Kl_e ?_ | refine Kx_n ?_ | refine Kl_r ?_ | refine vRet_i ?_ | refine vSkip_i ?_ | refine vExit_i ?_ | refine vBlock_i ?_ | refine Ks_p ?_ | refine Kl_p ?_ | refine blk_p ?_ | exact Kb_p | refine vGoto_i ?_ | refine vLabel_i ?_ | refine Ks_g ?_ | refine Kl_g ?_ | refine blk_g ?_ | refine jmp_g ?_ | refine jmp_n ?_ | refine jmp_r ?_ | refine nog_n ?_ | refine nog_r ?_ | refine blk_n ?_ | refine blk_r ?_ | refine blk_e ?_ | refine blk_o (by decide) ?_ | refine cp_t ?_ | refine cp_f ?_
          | ((with_reducible apply vCond_x); (focus (simp only [lv, E1, E2, E5, ET, T, mvB, bxB, sxB, rxB, fwd, fwds, inv, mOk, EB, simprocAttr, DBA27, Ch.x, Ch.inv, Ch.rx, Ch.rr, Opn.x, St.x, ← rn_app]; with_reducible first | exact Eq.refl (bo true) | exact Eq.refl (bo false))))
          | ((with_reducible refine And.intro ?_ ?_); (focus (try omega)))
        refine Ky_r ?_
        refine Kf_r ?_
        simp only [Tryz.f73, E4, E3, E2, E5, rawX, deadX, ET, T, EB, simprocAttr, DBA27, Ch.x, Ch.inv, Ch.rx, Ch.rr, Opn.x, St.x, ← rn_app, dropT, List.contains_cons, List.contains_nil, Bool.or_false, Bool.or_true, Bool.true_or, Bool.false_or, X.p.injEq, X.tup.injEq, PX.one.injEq, PX.agg.injEq, TV.v.injEq, TV.sr.injEq, SV.raw.injEq, SV.sl.injEq, Value.bool.injEq, Value.int.injEq, List.cons.injEq, Prod.mk.injEq, true_and, and_true, and_self]
        rw [hst', decide_eq_false (fun h => k3 h.1.2.1)]
        rfl
      have f3 : CallOk Tryz.prog 72 [sl (rn (c.inv).came)] (bo true) [] true := by
        have := scal_ok (c.inv).came hok.rcame (Nat.le_trans hok.came (by omega))
        rwa [decide_eq_true k3] at this
      have hlen := Ch.done_len k1
      have f4 := done_ok cur (c.inv) k1.1 (by have := k1.2.2.1; omega) (by have := hok.came; omega)
      rw [if_pos ⟨k2, k3, k1⟩] at hst'
      repeat' first
        | ((first
            | ((with_reducible refine vR_cons (by decide) ?_); generalize hk : KtR _ _ _ _ _ _ _ _ _ _ = k)
            | ((first
            | with_reducible refine vOps_cons' ?_
            | ((with_reducible apply orc_i); (focus (exact inverse_ok c hcm.small; done)))
            | ((with_reducible apply orc_i); (focus (exact f1; done)))
            | ((with_reducible apply orc_i); (focus (exact f2; done)))
            | ((with_reducible apply orc_i); (focus (exact f3; done)))
            | ((with_reducible apply orc_i); (focus (exact f4; done)))) <;> generalize hk : Kt _ _ _ _ _ _ _ _ _ = k)) <;> (simp only [Tryz.f73, lv, E1, E2, E5, ET, T, mvB, bxB, sxB, rxB, fwd, fwds, inv, mOk, EB, simprocAttr, DBA27, Ch.x, Ch.inv, Ch.rx, Ch.rr, Opn.x, St.x, ← rn_app]; (try simp (disch := omega) only [wrap_in, Int.toNat_natCast, tv_rn, tv_ch0, tv_ch1, tv_ch2]); subst hk))
        | with_reducible first | refine Kt_p ?_ | refine Kt_i (by kernel_rfl) ?_ | refine Kr_f (by kernel_rfl) ?_
        | (with_reducible refine Kr_t ?_; simp only [List.length_append, List.length_cons, List.length_nil, Nat.reduceAdd, Nat.reduceSub, List.drop_succ_cons, List.drop_zero])
        | with_reducible first | refine vR_nil ?_ | refine KtR_i (by kernel_rfl) ?_ | refine KrR_i (by kernel_rfl) ?_ | refine vR_skip (by decide) ?_
        | ((with_reducible refine vB_i ?_ ?_) <;> intro _ <;> (first | (exfalso; omega) | (exact absurd trivial ‹¬True›) | (try dsimp only [])))
        | ((with_reducible refine vOps_nil' ?_); refine Kr_i (by kernel_rfl) ?_; generalize hk : plain _ _ = G; simp only [lv, E3, E2, E5, rawX, deadX, EB, simprocAttr, DBA27, Ch.x, Ch.inv, Ch.rx, Ch.rr, Opn.x, St.x, ← rn_app] at hk; subst hk)
        | with_reducible refine vSeq_i ?_
        | with_reducible first | refine vRegion_i (by kernel_rfl) ?_ | refine Kv_i ?_
        | ((with_reducible apply vStrK_i); (focus (rfl; done)))
        | ((with_reducible refine imp_i ?_); intro _)
        | with_reducible first | refine Ks_n ?_ | refine Ks_r ?_ | refine Ks_e ?_ | refine Kl_e ?_ | refine Kx_n ?_ | refine Kl_r ?_ | refine vRet_i ?_ | refine vSkip_i ?_ | refine vExit_i ?_ | refine vBlock_i ?_ | refine Ks_p ?_ | refine Kl_p ?_ | refine blk_p ?_ | exact Kb_p | refine vGoto_i ?_ | refine vLabel_i ?_ | refine Ks_g ?_ | refine Kl_g ?_ | refine blk_g ?_ | refine jmp_g ?_ | refine jmp_n ?_ | refine jmp_r ?_ | refine nog_n ?_ | refine nog_r ?_ | refine blk_n ?_ | refine blk_r ?_ | refine blk_e ?_ | refine blk_o (by decide) ?_ | refine cp_t ?_ | refine cp_f ?_
        | ((with_reducible apply vCond_x); (focus (simp only [lv, E1, E2, E5, ET, T, mvB, bxB, sxB, rxB, fwd, fwds, inv, mOk, EB, simprocAttr, DBA27, Ch.x, Ch.inv, Ch.rx, Ch.rr, Opn.x, St.x, ← rn_app]; with_reducible first | exact Eq.refl (bo true) | exact Eq.refl (bo false))))
        | ((with_reducible refine And.intro ?_ ?_); (focus (try omega)))
      · rename_i hgt
        change (((c.inv).done cur).length : Int) > 4096 at hgt
        refine Ky_r ?_
        refine Kf_r ?_
        simp only [Tryz.f73, E4, E3, E2, E5, rawX, deadX, ET, T, EB, simprocAttr, DBA27, Ch.x, Ch.inv, Ch.rx, Ch.rr, Opn.x, St.x, ← rn_app, dropT, List.contains_cons, List.contains_nil, Bool.or_false, Bool.or_true, Bool.true_or, Bool.false_or, X.p.injEq, X.tup.injEq, PX.one.injEq, PX.agg.injEq, TV.v.injEq, TV.sr.injEq, SV.raw.injEq, SV.sl.injEq, Value.bool.injEq, Value.int.injEq, List.cons.injEq, Prod.mk.injEq, true_and, and_true, and_self]
        rw [hst', decide_eq_false (fun h => by omega)]
        rfl
      · rename_i hgt
        change ¬ (((c.inv).done cur).length : Int) > 4096 at hgt
        refine Ky_n ⟨(c.inv).done cur, ⟨by omega, by omega, ?_⟩, ?_⟩
        · rw [hst', decide_eq_true ⟨⟨k2, k3, k1⟩, by omega⟩, Bool.true_and, show l.length - (k + 1) = l.length - 1 - k by omega]
        · rfl
  · rintro cur ⟨_, _, hw⟩
    have hz : walkN W (l.length - ((List.range l.length).map fun k => [i64 ((l.length : Int) - 1 - (k : Nat)), (l.getD (l.length - 1 - k) noCh).x]).length) cur = true := by
      rw [List.length_map, List.length_range, Nat.sub_self]; rfl
    rw [hz] at hw
    rw [hw]
    repeat' first
      | ((first
          | ((with_reducible refine vR_cons (by decide) ?_); generalize hk : KtR _ _ _ _ _ _ _ _ _ _ = k)
          | ((first
          | with_reducible refine vOps_cons' ?_) <;> generalize hk : Kt _ _ _ _ _ _ _ _ _ = k)) <;> (simp only [Tryz.f73, lv, E1, E2, E5, ET, T, mvB, bxB, sxB, rxB, fwd, fwds, inv, mOk, EB, simprocAttr, DBA27, Ch.x, Ch.inv, Ch.rx, Ch.rr, Opn.x, St.x, ← rn_app]; (try simp (disch := omega) only [wrap_in, Int.toNat_natCast, tv_rn, tv_ch0, tv_ch1, tv_ch2]); subst hk))
      | with_reducible first | refine Kt_p ?_ | refine Kt_i (by kernel_rfl) ?_ | refine Kr_f (by kernel_rfl) ?_
      | (with_reducible refine Kr_t ?_; simp only [List.length_append, List.length_cons, List.length_nil, Nat.reduceAdd, Nat.reduceSub, List.drop_succ_cons, List.drop_zero])
      | with_reducible first | refine vR_nil ?_ | refine KtR_i (by kernel_rfl) ?_ | refine KrR_i (by kernel_rfl) ?_ | refine vR_skip (by decide) ?_
      | ((with_reducible refine vB_i ?_ ?_) <;> intro _ <;> (first | (exfalso; omega) | (exact absurd trivial ‹¬True›) | (try dsimp only [])))
      | ((with_reducible refine vOps_nil' ?_); refine Kr_i (by kernel_rfl) ?_; generalize hk : plain _ _ = G; simp only [lv, E3, E2, E5, rawX, deadX, EB, simprocAttr, DBA27, Ch.x, Ch.inv, Ch.rx, Ch.rr, Opn.x, St.x, ← rn_app] at hk; subst hk)
      | with_reducible refine vSeq_i ?_
      | with_reducible first | refine vRegion_i (by kernel_rfl) ?_ | refine Kv_i ?_
      | ((with_reducible apply vStrK_i); (focus (rfl; done)))
      | ((with_reducible refine imp_i ?_); intro _)
      | with_reducible first | refine Ks_n ?_ | refine Ks_r ?_ | refine Ks_e ?_ | refine Kl_e ?_ | refine Kx_n ?_ | refine Kl_r ?_ | refine vRet_i ?_ | refine vSkip_i ?_ | refine vExit_i ?_ | refine vBlock_i ?_ | refine Ks_p ?_ | refine Kl_p ?_ | refine blk_p ?_ | exact Kb_p | refine vGoto_i ?_ | refine vLabel_i ?_ | refine Ks_g ?_ | refine Kl_g ?_ | refine blk_g ?_ | refine jmp_g ?_ | refine jmp_n ?_ | refine jmp_r ?_ | refine nog_n ?_ | refine nog_r ?_ | refine blk_n ?_ | refine blk_r ?_ | refine blk_e ?_ | refine blk_o (by decide) ?_ | refine cp_t ?_ | refine cp_f ?_
      | ((with_reducible apply vCond_x); (focus (simp only [lv, E1, E2, E5, ET, T, mvB, bxB, sxB, rxB, fwd, fwds, inv, mOk, EB, simprocAttr, DBA27, Ch.x, Ch.inv, Ch.rx, Ch.rr, Opn.x, St.x, ← rn_app]; with_reducible first | exact Eq.refl (bo true) | exact Eq.refl (bo false))))
      | ((with_reducible refine And.intro ?_ ?_); (focus (try omega)))
    refine Kf_r ?_
    simp only [Tryz.f73, E4, E3, E2, E5, rawX, deadX, ET, T, EB, simprocAttr, DBA27, Ch.x, Ch.inv, Ch.rx, Ch.rr, Opn.x, St.x, ← rn_app, X.p.injEq, X.tup.injEq, PX.one.injEq, PX.agg.injEq, TV.v.injEq, TV.sr.injEq, SV.raw.injEq, SV.sl.injEq, Value.bool.injEq, Value.int.injEq, List.cons.injEq, Prod.mk.injEq, true_and, and_true, and_self]
end Go.Proofs.YtdpflafjfkooeaaGreatDoorG
namespace Go.Proofs.YtdpflafjfkooeaaGreatDoorG
open Go Go.RowKit Go.Proofs Go.Proofs.YtdpflafjfkooeaaGreatDoorG.Dec
set_option linter.unusedSimpArgs false
set_option linter.unusedVariables false
theorem BytN.mono {n m : Nat} {xs : List Int} (g : BytN n xs) (h : n ≤ m) : BytN m xs := ⟨g.bytes, Nat.le_trans g.len h⟩
theorem RR.bind_ok {α β : Type} {r : RR α} {f : α → List Int → RR β} {b : β} {rest : List Int} (h : r.bind f = .ok b rest) : ∃ a r1, r = .ok a r1 ∧ f a r1 = .ok b rest := by
  cases r with
  | ok a r1 => exact ⟨a, r1, rfl, h⟩
  | bad e => cases h
def stE (p : Int × St × Int) : X := .tup [.one (.v (.raw (.int .i64 p.1))), .agg p.2.1.cs, .one (.v (.raw (.int .i64 p.2.2)))]
end Go.Proofs.YtdpflafjfkooeaaGreatDoorG
namespace Go.Proofs.YtdpflafjfkooeaaGreatDoorG
open Go Go.RowKit Go.Proofs
set_option linter.unusedSimpArgs false
set_option linter.unusedVariables false
/-- A text's bytes; none, if one of its numbers is no scalar value. -/
def encV (l : List Int) : List Int := if scal l then encF l else []
theorem encV_le (l : List Int) : (encV l).length ≤ 4 * l.length := by
  unfold encV; split
  · exact encF_le l
  · simp
theorem encR_v (l : List Int) : encR l = [(5, 1, bs (encV l))] := rfl
def pieceF (l : List Int) : List Int := numB ((encV l).length : Int) ++ encV l
theorem numB_len (n : Int) : (numB n).length = 4 := rfl
theorem pieceF_le (l : List Int) : (pieceF l).length ≤ 4 + 4 * l.length := by
  have := encV_le l
  simp only [pieceF, List.length_append, numB_len]; omega
theorem DBC3 : type_of% (And.intro @List.length_map.{0,0} (And.intro @bs_len (And.intro @rn_len (And.intro @chs_len (And.intro @chs_cnt (And.intro @List.length_append.{0} (And.intro @List.length_cons.{0} @List.length_nil.{0}))))))) := ⟨@List.length_map.{0,0}, @bs_len, @rn_len, @chs_len, @chs_cnt, @List.length_append.{0}, @List.length_cons.{0}, @List.length_nil.{0}⟩
set_option maxRecDepth 10000 in
theorem piece_ok (b l : List Int) (h : R32s l) (hl : l.length ≤ 2000000) (hb : b.length ≤ 130000000000000) : CallM Tryz.prog 50 (5, 1, bs b) [sl (rn l)] (.p (.one (.sr 0))) [(5, 1, bs (b ++ pieceF l))] := by
  have hv := encV_le l
  refine fn_okM' T_ok (orc_ok _) mixed Tryz.func50 rfl (by kernel_rfl) (lv [[0, 1], [0, 5], [4]]) 20 rfl (by simp) rfl ?_
  simp only [argsG, Nat.zero_add, Nat.reduceAdd]
  repeat' first
    | ((first
        | ((with_reducible refine vR_cons (by decide) ?_); generalize hk : KtR _ _ _ _ _ _ _ _ _ _ = k)
        | ((first
        | with_reducible refine vOps_cons' ?_
        | ((with_reducible apply orc_i); (focus ((have hq := encode_ok l h hl; simp only [encX, encR_v] at hq; exact hq); done)))
        | ((with_reducible apply orc_m); (focus (exact number_ok _ _ (by omega); done)))) <;> generalize hk : Kt _ _ _ _ _ _ _ _ _ = k)) <;> (simp only [Tryz.f50, lv, E1, E2, E5, ET, T, mvB, bxB, sxB, rxB, fwd, fwds, inv, mOk, EB, simprocAttr, DBC3, Ch.x, Opn.x]; (try simp (disch := omega) only [wrap_in, Int.toNat_natCast, tv_rn, tv_ch0, tv_ch1, tv_ch2]); subst hk))
    | with_reducible first | refine Kt_p ?_ | refine Kt_i (by kernel_rfl) ?_ | refine Kr_f (by kernel_rfl) ?_
    | (with_reducible refine Kr_t ?_; simp only [List.length_append, List.length_cons, List.length_nil, Nat.reduceAdd, Nat.reduceSub, List.drop_succ_cons, List.drop_zero])
    | with_reducible first | refine vR_nil ?_ | refine KtR_i (by kernel_rfl) ?_ | refine KrR_i (by kernel_rfl) ?_ | refine vR_skip (by decide) ?_
    | ((with_reducible refine vB_i ?_ ?_) <;> intro _ <;> (first | (exfalso; omega) | (exact absurd trivial ‹¬True›) | (try dsimp only [])))
    | ((with_reducible refine vOps_nil' ?_); refine Kr_i (by kernel_rfl) ?_; generalize hk : plain _ _ = G; simp only [lv, E3, E2, E5, rawX, deadX, EB, simprocAttr, DBC3, Ch.x, Opn.x] at hk; subst hk)
    | with_reducible refine vSeq_i ?_
    | with_reducible first | refine vRegion_i (by kernel_rfl) ?_ | refine Kv_i ?_
    | ((with_reducible apply vStrK_i); (focus (rfl; done)))
    | ((with_reducible refine imp_i ?_); intro _)
    | with_reducible first | refine Ks_n ?_ | refine Ks_r ?_ | refine Ks_e ?_ | refine Kl_e ?_ | refine Kx_n ?_ | refine Kl_r ?_ | refine vRet_i ?_ | refine vSkip_i ?_ | refine vExit_i ?_ | refine vBlock_i ?_ | refine Ks_p ?_ | refine Kl_p ?_ | refine blk_p ?_ | exact Kb_p | refine vGoto_i ?_ | refine vLabel_i ?_ | refine Ks_g ?_ | refine Kl_g ?_ | refine blk_g ?_ | refine jmp_g ?_ | refine jmp_n ?_ | refine jmp_r ?_ | refine nog_n ?_ | refine nog_r ?_ | refine blk_n ?_ | refine blk_r ?_ | refine blk_e ?_ | refine blk_o (by decide) ?_ | refine cp_t ?_ | refine cp_f ?_
    | ((with_reducible apply vCond_x); (focus (simp only [lv, E1, E2, E5, ET, T, mvB, bxB, sxB, rxB, fwd, fwds, inv, mOk, EB, simprocAttr, DBC3, Ch.x, Opn.x]; with_reducible first | exact Eq.refl (bo true) | exact Eq.refl (bo false))))
    | ((with_reducible refine And.intro ?_ ?_); (focus (try omega)))
  all_goals try (simp only [numB_len]; omega)
  refine Kf_r ?_
  simp only [Tryz.f50, E4, E3, E2, E5, rawX, deadX, ET, T, EB, simprocAttr, DBC3, Ch.x, Opn.x, pieceF, bs_app, List.append_assoc]
def chF (c : Ch) : List Int := numB c.at_ ++ (pieceF c.gone ++ pieceF c.came)
def chsF (l : List Ch) : List Int := ((l.length : Int) % 256) :: l.flatMap chF
theorem chF_le {c : Ch} (h : c.small) : (chF c).length ≤ 16000012 := by
  have h1 := pieceF_le c.gone; have h2 := pieceF_le c.came; have := h.1; have := h.2
  simp only [chF, List.length_append, numB_len]; omega
theorem flat_le {l : List Ch} (h : ∀ c ∈ l, c.small) : (l.flatMap chF).length ≤ l.length * 16000012 := by
  induction l with
  | nil => simp
  | cons c l ih =>
    have h1 := ih fun c hc => h c (by simp [hc])
    have h2 := chF_le (h c (by simp))
    simp only [List.flatMap_cons, List.length_append, List.length_cons]; omega
theorem flat_1 {l : List Ch} {k : Nat} (h : k < l.length) : (l.take (k + 1)).flatMap chF = (l.take k).flatMap chF ++ chF (l.getD k noCh) := by
  have e : l.take (k + 1) = l.take k ++ [l.getD k noCh] := by rw [List.take_add_one]; simp [List.getD, List.getElem?_eq_getElem h]
  rw [e, List.flatMap_append]
  simp only [List.flatMap_cons, List.flatMap_nil, List.append_nil]
set_option maxRecDepth 10000 in
set_option maxHeartbeats 4000000 in
theorem wchanges_ok (b : List Int) (l : List Ch) (hl : l.length ≤ 2000000) (hc : ∀ c ∈ l, c.small) (hr : ∀ c ∈ l, R32s c.gone ∧ R32s c.came) (hb : b.length ≤ 70000000000000) : CallM Tryz.prog 49 (5, 1, bs b) [sln 3 (chs l)] (.p (.one (.sr 0))) [(5, 1, bs (b ++ chsF l))] := by
  refine fn_okM' T_ok (orc_ok _) mixed Tryz.func49 rfl (by kernel_rfl) (lv [[0, 1], [0, 1], [0, 13, 14, 15], [0, 13, 14, 15, 16], [0, 6, 13, 14, 15], [0, 13, 14, 15], [0, 13, 14, 15], [4]]) 31 rfl (by simp) rfl ?_
  simp only [argsG, Nat.zero_add, Nat.reduceAdd]
  repeat' first
    | ((first
        | ((with_reducible refine vR_cons (by decide) ?_); generalize hk : KtR _ _ _ _ _ _ _ _ _ _ = k)
        | ((first
        | with_reducible refine vOps_cons' ?_) <;> generalize hk : Kt _ _ _ _ _ _ _ _ _ = k)) <;> (simp only [Tryz.f49, lv, E1, E2, E5, ET, T, mvB, bxB, sxB, rxB, fwd, fwds, inv, mOk, EB, simprocAttr, DBC3, Ch.x, Opn.x]; (try simp (disch := omega) only [wrap_in, Int.toNat_natCast, tv_rn, tv_ch0, tv_ch1, tv_ch2]); subst hk))
    | with_reducible first | refine Kt_p ?_ | refine Kt_i (by kernel_rfl) ?_ | refine Kr_f (by kernel_rfl) ?_
    | (with_reducible refine Kr_t ?_; simp only [List.length_append, List.length_cons, List.length_nil, Nat.reduceAdd, Nat.reduceSub, List.drop_succ_cons, List.drop_zero])
    | with_reducible first | refine vR_nil ?_ | refine KtR_i (by kernel_rfl) ?_ | refine KrR_i (by kernel_rfl) ?_ | refine vR_skip (by decide) ?_
    | ((with_reducible refine vB_i ?_ ?_) <;> intro _ <;> (first | (exfalso; omega) | (exact absurd trivial ‹¬True›) | (try dsimp only [])))
    | ((with_reducible refine vOps_nil' ?_); refine Kr_i (by kernel_rfl) ?_; generalize hk : plain _ _ = G; simp only [lv, E3, E2, E5, rawX, deadX, EB, simprocAttr, DBC3, Ch.x, Opn.x] at hk; subst hk)
    | with_reducible refine vSeq_i ?_
    | with_reducible first | refine vRegion_i (by kernel_rfl) ?_ | refine Kv_i ?_
    | ((with_reducible apply vStrK_i); (focus (rfl; done)))
    | ((with_reducible refine imp_i ?_); intro _)
    | with_reducible first | refine Ks_n ?_ | refine Ks_r ?_ | refine Ks_e ?_ | refine Kl_e ?_ | refine Kx_n ?_ | refine Kl_r ?_ | refine vRet_i ?_ | refine vSkip_i ?_ | refine vExit_i ?_ | refine vBlock_i ?_ | refine Ks_p ?_ | refine Kl_p ?_ | refine blk_p ?_ | exact Kb_p | refine vGoto_i ?_ | refine vLabel_i ?_ | refine Ks_g ?_ | refine Kl_g ?_ | refine blk_g ?_ | refine jmp_g ?_ | refine jmp_n ?_ | refine jmp_r ?_ | refine nog_n ?_ | refine nog_r ?_ | refine blk_n ?_ | refine blk_r ?_ | refine blk_e ?_ | refine blk_o (by decide) ?_ | refine cp_t ?_ | refine cp_f ?_
    | ((with_reducible apply vCond_x); (focus (simp only [lv, E1, E2, E5, ET, T, mvB, bxB, sxB, rxB, fwd, fwds, inv, mOk, EB, simprocAttr, DBC3, Ch.x, Opn.x]; with_reducible first | exact Eq.refl (bo true) | exact Eq.refl (bo false))))
    | ((with_reducible refine And.intro ?_ ?_); (focus (try omega)))
  all_goals try omega
  refine vLoop_s (fun k : Nat => [(.t 0, .t (.p (.one (.sr 0)))), (.t 13, .t (sln 3 (chs l))), (.t 14, .t (i64 l.length)), (.t 15, .t (i64 k)), (.row 0, .row 5 1 (bs (b ++ (((l.length : Int) % 256) :: (l.take k).flatMap chF))))]) (fun k => k ≤ l.length) (fun k => l.length - k) 0 (by omega) (by rw [u8w, bs_app]; rfl) ?_
  intro k hk
  have hf : ((l.take k).flatMap chF).length ≤ k * 16000012 := by
    have := flat_le (l := l.take k) fun c h => hc c (List.mem_of_mem_take h)
    rw [List.length_take] at this
    exact Nat.le_trans this (Nat.mul_le_mul_right _ (by omega))
  have hp1 := fun h : k < l.length => pieceF_le (l.getD k noCh).gone
  have hp2 := fun h : k < l.length => pieceF_le (l.getD k noCh).came
  have hs := fun h : k < l.length => hc (l.getD k noCh) (mem_getD h)
  have hq := fun h : k < l.length => hr (l.getD k noCh) (mem_getD h)
  repeat' first
    | ((first
        | ((with_reducible refine vR_cons (by decide) ?_); generalize hk : KtR _ _ _ _ _ _ _ _ _ _ = k)
        | ((first
        | with_reducible refine vOps_cons' ?_
        | ((with_reducible apply orc_m); (focus (exact number_ok _ _ (by simp only [List.length_append, List.length_cons]; omega); done)))
        | ((with_reducible apply orc_m); (focus (exact piece_ok _ _ (hq (by omega)).1 (hs (by omega)).1 (by simp only [List.length_append, List.length_cons, numB_len]; omega); done)))
        | ((with_reducible apply orc_m); (focus (exact piece_ok _ _ (hq (by omega)).2 (hs (by omega)).2 (by have := hp1 (by omega); have := (hs (by omega)).1; simp only [List.length_append, List.length_cons, numB_len]; omega); done)))) <;> generalize hk : Kt _ _ _ _ _ _ _ _ _ = k)) <;> (simp only [Tryz.f49, lv, E1, E2, E5, ET, T, mvB, bxB, sxB, rxB, fwd, fwds, inv, mOk, EB, simprocAttr, DBC3, Ch.x, Opn.x]; (try simp (disch := omega) only [wrap_in, Int.toNat_natCast, tv_rn, tv_ch0, tv_ch1, tv_ch2]); subst hk))
    | with_reducible first | refine Kt_p ?_ | refine Kt_i (by kernel_rfl) ?_ | refine Kr_f (by kernel_rfl) ?_
    | (with_reducible refine Kr_t ?_; simp only [List.length_append, List.length_cons, List.length_nil, Nat.reduceAdd, Nat.reduceSub, List.drop_succ_cons, List.drop_zero])
    | with_reducible first | refine vR_nil ?_ | refine KtR_i (by kernel_rfl) ?_ | refine KrR_i (by kernel_rfl) ?_ | refine vR_skip (by decide) ?_
    | ((with_reducible refine vB_i ?_ ?_) <;> intro _ <;> (first | (exfalso; omega) | (exact absurd trivial ‹¬True›) | (try dsimp only [])))
    | ((with_reducible refine vOps_nil' ?_); refine Kr_i (by kernel_rfl) ?_; generalize hk : plain _ _ = G; simp only [lv, E3, E2, E5, rawX, deadX, EB, simprocAttr, DBC3, Ch.x, Opn.x] at hk; subst hk)
    | with_reducible refine vSeq_i ?_
    | with_reducible first | refine vRegion_i (by kernel_rfl) ?_ | refine Kv_i ?_
    | ((with_reducible apply vStrK_i); (focus (rfl; done)))
    | ((with_reducible refine imp_i ?_); intro _)
    | with_reducible first | refine Ks_n ?_ | refine Ks_r ?_ | refine Ks_e ?_ | refine Kl_e ?_ | refine Kx_n ?_ | refine Kl_r ?_ | refine vRet_i ?_ | refine vSkip_i ?_ | refine vExit_i ?_ | refine vBlock_i ?_ | refine Ks_p ?_ | refine Kl_p ?_ | refine blk_p ?_ | exact Kb_p | refine vGoto_i ?_ | refine vLabel_i ?_ | refine Ks_g ?_ | refine Kl_g ?_ | refine blk_g ?_ | refine jmp_g ?_ | refine jmp_n ?_ | refine jmp_r ?_ | refine nog_n ?_ | refine nog_r ?_ | refine blk_n ?_ | refine blk_r ?_ | refine blk_e ?_ | refine blk_o (by decide) ?_ | refine cp_t ?_ | refine cp_f ?_
    | ((with_reducible apply vCond_x); (focus (simp only [lv, E1, E2, E5, ET, T, mvB, bxB, sxB, rxB, fwd, fwds, inv, mOk, EB, simprocAttr, DBC3, Ch.x, Opn.x]; with_reducible first | exact Eq.refl (bo true) | exact Eq.refl (bo false))))
    | ((with_reducible refine And.intro ?_ ?_); (focus (try omega)))
  · refine Kl_n ⟨k + 1, by omega, by omega, ?_⟩
    rw [flat_1 (by omega)]
    simp only [Int.natCast_add, Int.natCast_one, chF, List.append_assoc, List.cons_append]
  · refine Kf_r ?_
    rw [List.take_of_length_le (by omega)]
    simp only [Tryz.f49, E4, E3, E2, E5, rawX, deadX, ET, T, EB, simprocAttr, DBC3, Ch.x, Opn.x, chsF]
def isI (n : Int) : Bool := decide (0 ≤ n ∧ n ≤ 2147483647)
/-- An operation's bytes, and why not. -/
def opF (o : Opn) : List Int × Int :=
  if o.kind = 1 then if isI o.at_ = false ∨ o.text = [] then ([], 2) else if ¬ scal o.text then ([], 11) else if 5 + (encF o.text).length > 4096 then ([], 3) else (1 :: (numB o.at_ ++ encF o.text), 0)
  else if o.kind = 2 then if isI o.at_ = false ∨ isI o.to_ = false then ([], 2) else (2 :: (numB o.at_ ++ numB o.to_), 0)
  else if o.kind = 3 ∨ o.kind = 4 then ([o.kind], 0) else ([], 2)
theorem scal_of {l : List Int} (h : (if scal l then (0 : Int) else 11) = 0) : scal l := by
  by_cases hs : scal l
  · exact hs
  · rw [if_neg hs] at h; exact absurd h (by decide)
theorem not_scal {l : List Int} (h : ¬ (if scal l then (0 : Int) else 11) = 0) : ¬ scal l := fun hs => h (if_pos hs)
theorem isI_t {n : Int} (h : 0 ≤ n ∧ n ≤ 2147483647) : isI n = true := decide_eq_true h
theorem isI_f {n : Int} (h : ¬ (0 ≤ n ∧ n ≤ 2147483647)) : isI n = false := decide_eq_false h
theorem opF_err1 {o : Opn} (k : o.kind = 1) (h : isI o.at_ = false ∨ o.text = []) : opF o = ([], 2) := by unfold opF; rw [if_pos k, if_pos h]
theorem opF_scal {o : Opn} (k : o.kind = 1) (h : ¬ (isI o.at_ = false ∨ o.text = [])) (hs : ¬ scal o.text) : opF o = ([], 11) := by unfold opF; rw [if_pos k, if_neg h, if_pos hs]
theorem opF_big {o : Opn} (k : o.kind = 1) (h : ¬ (isI o.at_ = false ∨ o.text = [])) (hs : scal o.text) (hb : 5 + (encF o.text).length > 4096) : opF o = ([], 3) := by unfold opF; rw [if_pos k, if_neg h, if_neg (fun q => q hs), if_pos hb]
theorem opF_ins {o : Opn} (k : o.kind = 1) (h : ¬ (isI o.at_ = false ∨ o.text = [])) (hs : scal o.text) (hb : ¬ 5 + (encF o.text).length > 4096) : opF o = (1 :: (numB o.at_ ++ encF o.text), 0) := by unfold opF; rw [if_pos k, if_neg h, if_neg (fun q => q hs), if_neg hb]
theorem opF_err2 {o : Opn} (k : o.kind = 2) (h : isI o.at_ = false ∨ isI o.to_ = false) : opF o = ([], 2) := by unfold opF; rw [if_neg (by omega), if_pos k, if_pos h]
theorem opF_del {o : Opn} (k : o.kind = 2) (h : ¬ (isI o.at_ = false ∨ isI o.to_ = false)) : opF o = (2 :: (numB o.at_ ++ numB o.to_), 0) := by unfold opF; rw [if_neg (by omega), if_pos k, if_neg h]
theorem opF_un {o : Opn} (k : o.kind = 3 ∨ o.kind = 4) : opF o = ([o.kind], 0) := by unfold opF; rw [if_neg (by omega), if_neg (by omega), if_pos k]
theorem opF_no {o : Opn} (h1 : ¬ o.kind = 1) (h2 : ¬ o.kind = 2) (h3 : ¬ o.kind = 3) (h4 : ¬ o.kind = 4) : opF o = ([], 2) := by unfold opF; rw [if_neg h1, if_neg h2, if_neg (by omega)]
theorem w_1 : IntKind.u8.wrap 1 = 1 := by decide
theorem w_2 : IntKind.u8.wrap 2 = 2 := by decide
set_option maxRecDepth 10000 in
set_option maxHeartbeats 4000000 in
theorem wop_ok (o : Opn) (h : R32s o.text) (hl : o.text.length ≤ 2000000) : CallOk Tryz.prog 30 [o.x] (.tup [.one (.sr 0), .one (.v (.raw (.int .i64 (opF o).2)))]) [(5, 1, bs (opF o).1)] true := by
  have hv := encV_le o.text
  refine fn_ok' T_ok (orc_ok _) mixed Tryz.func30 rfl (by kernel_rfl) (lv [[1], [1, 4], [1, 4, 13], [2, 3], [1, 4, 13, 14], [1, 4, 25], [2, 3], [1, 4, 5, 7], [1, 4, 5, 7, 34], [2, 3], [4], [1, 4, 13, 42], [1, 4, 53], [2, 3], [4], [4, 13, 61], [4, 61], [4, 66], [2, 3], [2, 3]]) 68 rfl (by simp) rfl (fun _ => ⟨rfl, rows_raw⟩) ?_
  simp only [argsG, Nat.zero_add, Nat.reduceAdd, Opn.x]
  repeat' first
    | ((first
        | ((with_reducible refine vR_cons (by decide) ?_); generalize hk : KtR _ _ _ _ _ _ _ _ _ _ = k)
        | ((first
        | with_reducible refine vOps_cons' ?_
        | ((with_reducible apply orc_b); (focus (exact is_ok _; done)); (all_goals (intro hb; (try simp only [decide_eq_true_eq, decide_eq_false_iff_not, Bool.not_eq_true', Bool.not_eq_false', Bool.and_eq_true, Decidable.not_not] at hb))))
        | ((with_reducible apply orc_i); (focus ((have hq := encode_ok o.text h hl; simp only [encX, encR_v] at hq; exact hq); done)))
        | ((with_reducible apply orc_m); (focus (exact number_ok [IntKind.u8.wrap o.kind] _ (by simp); done)))
        | ((with_reducible apply orc_m); (focus (exact number_ok _ _ (by simp only [List.length_append, List.length_cons, List.length_nil, numB_len]; omega); done)))) <;> generalize hk : Kt _ _ _ _ _ _ _ _ _ = k)) <;> (simp only [Tryz.f30, lv, E1, E2, E5, ET, T, mvB, bxB, sxB, rxB, fwd, fwds, inv, mOk, EB, simprocAttr, DBC3, Ch.x, Opn.x]; (try simp (disch := omega) only [wrap_in, Int.toNat_natCast, tv_rn, tv_ch0, tv_ch1, tv_ch2]); subst hk))
    | with_reducible first | refine Kt_p ?_ | refine Kt_i (by kernel_rfl) ?_ | refine Kr_f (by kernel_rfl) ?_
    | (with_reducible refine Kr_t ?_; simp only [List.length_append, List.length_cons, List.length_nil, Nat.reduceAdd, Nat.reduceSub, List.drop_succ_cons, List.drop_zero])
    | with_reducible first | refine vR_nil ?_ | refine KtR_i (by kernel_rfl) ?_ | refine KrR_i (by kernel_rfl) ?_ | refine vR_skip (by decide) ?_
    | ((with_reducible refine vB_i ?_ ?_) <;> intro _ <;> (first | (exfalso; omega) | (exact absurd trivial ‹¬True›) | (try dsimp only [])))
    | ((with_reducible refine vOps_nil' ?_); refine Kr_i (by kernel_rfl) ?_; generalize hk : plain _ _ = G; simp only [lv, E3, E2, E5, rawX, deadX, EB, simprocAttr, DBC3, Ch.x, Opn.x] at hk; subst hk)
    | with_reducible refine vSeq_i ?_
    | with_reducible first | refine vRegion_i (by kernel_rfl) ?_ | refine Kv_i ?_
    | ((with_reducible apply vStrK_i); (focus (rfl; done)))
    | ((with_reducible refine imp_i ?_); intro _)
    | with_reducible first | refine Ks_n ?_ | refine Ks_r ?_ | refine Ks_e ?_ | refine Kl_e ?_ | refine Kx_n ?_ | refine Kl_r ?_ | refine vRet_i ?_ | refine vSkip_i ?_ | refine vExit_i ?_ | refine vBlock_i ?_ | refine Ks_p ?_ | refine Kl_p ?_ | refine blk_p ?_ | exact Kb_p | refine vGoto_i ?_ | refine vLabel_i ?_ | refine Ks_g ?_ | refine Kl_g ?_ | refine blk_g ?_ | refine jmp_g ?_ | refine jmp_n ?_ | refine jmp_r ?_ | refine nog_n ?_ | refine nog_r ?_ | refine blk_n ?_ | refine blk_r ?_ | refine blk_e ?_ | refine blk_o (by decide) ?_ | refine cp_t ?_ | refine cp_f ?_
    | ((with_reducible apply vCond_x); (focus (simp only [lv, E1, E2, E5, ET, T, mvB, bxB, sxB, rxB, fwd, fwds, inv, mOk, EB, simprocAttr, DBC3, Ch.x, Opn.x]; with_reducible first | exact Eq.refl (bo true) | exact Eq.refl (bo false))))
    | ((with_reducible refine And.intro ?_ ?_); (focus (try omega)))
  all_goals try (simp only [List.length_append, List.length_cons, List.length_nil, numB_len]; omega)
  · rename_i k1 k2
    rw [opF_err1 k1 (.inr (List.eq_nil_of_length_eq_zero (by omega)))]
    refine Kf_r ?_
    simp only [Tryz.f30, E4, E3, E2, E5, rawX, deadX, ET, T, EB, simprocAttr, DBC3, Ch.x, Opn.x, bs_nil]
  · rename_i k1 k2 k3 k4
    have hn : ¬ (isI o.at_ = false ∨ o.text = []) := fun q => by
      rcases q with q | q
      · rw [isI_t hb] at q; cases q
      · rw [q] at k2; exact k2 rfl
    have hs := scal_of k3
    rw [show encV o.text = encF o.text from if_pos hs, numB_len] at k4
    rw [opF_big k1 hn hs (by omega)]
    refine Kf_r ?_
    simp only [Tryz.f30, E4, E3, E2, E5, rawX, deadX, ET, T, EB, simprocAttr, DBC3, Ch.x, Opn.x, bs_nil]
  · rename_i k1 k2 k3 k4
    have hn : ¬ (isI o.at_ = false ∨ o.text = []) := fun q => by
      rcases q with q | q
      · rw [isI_t hb] at q; cases q
      · rw [q] at k2; exact k2 rfl
    have hs := scal_of k3
    rw [show encV o.text = encF o.text from if_pos hs, numB_len] at k4
    rw [opF_ins k1 hn hs (by omega), show encV o.text = encF o.text from if_pos hs, k1, w_1, ← bs_app]
    refine Kf_r ?_
    simp only [Tryz.f30, E4, E3, E2, E5, rawX, deadX, ET, T, EB, simprocAttr, DBC3, Ch.x, Opn.x, List.cons_append]
  · rename_i k1 k2 k3
    have hn : ¬ (isI o.at_ = false ∨ o.text = []) := fun q => by
      rcases q with q | q
      · rw [isI_t hb] at q; cases q
      · rw [q] at k2; exact k2 rfl
    have hs := not_scal k3
    rw [opF_scal k1 hn hs, if_neg hs]
    refine Kf_r ?_
    simp only [Tryz.f30, E4, E3, E2, E5, rawX, deadX, ET, T, EB, simprocAttr, DBC3, Ch.x, Opn.x, bs_nil]
  · rename_i k1
    rw [opF_err1 k1 (.inl (isI_f hb))]
    refine Kf_r ?_
    simp only [Tryz.f30, E4, E3, E2, E5, rawX, deadX, ET, T, EB, simprocAttr, DBC3, Ch.x, Opn.x, bs_nil]
  · rename_i k1 k2 hb1 k3
    exfalso
    rw [numB_len, numB_len] at k3
    omega
  · rename_i k1 k2 hb1 k3
    have hn : ¬ (isI o.at_ = false ∨ isI o.to_ = false) := fun q => by
      rcases q with q | q
      · rw [isI_t hb1] at q; cases q
      · rw [isI_t hb] at q; cases q
    rw [opF_del k2 hn, k2, w_2]
    refine Kf_r ?_
    simp only [Tryz.f30, E4, E3, E2, E5, rawX, deadX, ET, T, EB, simprocAttr, DBC3, Ch.x, Opn.x, bs_nil]
  · rename_i k1 k2 hb1
    rw [opF_err2 k2 (.inr (isI_f hb))]
    refine Kf_r ?_
    simp only [Tryz.f30, E4, E3, E2, E5, rawX, deadX, ET, T, EB, simprocAttr, DBC3, Ch.x, Opn.x, bs_nil]
  · rename_i k1 k2
    rw [opF_err2 k2 (.inl (isI_f hb))]
    refine Kf_r ?_
    simp only [Tryz.f30, E4, E3, E2, E5, rawX, deadX, ET, T, EB, simprocAttr, DBC3, Ch.x, Opn.x, bs_nil]
  · rename_i k1 k2 k3 k4
    rw [opF_un (.inl k3), show IntKind.u8.wrap o.kind = o.kind from u8in (by omega) (by omega)]
    refine Kf_r ?_
    simp only [Tryz.f30, E4, E3, E2, E5, rawX, deadX, ET, T, EB, simprocAttr, DBC3, Ch.x, Opn.x, bs, List.map_cons, List.map_nil]
  · rename_i k1 k2 k3 k4 k5
    rw [opF_un (.inr k4), show IntKind.u8.wrap o.kind = o.kind from u8in (by omega) (by omega)]
    refine Kf_r ?_
    simp only [Tryz.f30, E4, E3, E2, E5, rawX, deadX, ET, T, EB, simprocAttr, DBC3, Ch.x, Opn.x, bs, List.map_cons, List.map_nil]
  · rename_i k1 k2 k3 k4
    rw [opF_no k1 k2 k3 k4]
    refine Kf_r ?_
    simp only [Tryz.f30, E4, E3, E2, E5, rawX, deadX, ET, T, EB, simprocAttr, DBC3, Ch.x, Opn.x, bs_nil]
end Go.Proofs.YtdpflafjfkooeaaGreatDoorG
namespace Go.Proofs.YtdpflafjfkooeaaGreatDoorG
open Go Go.RowKit Go.Proofs
set_option linter.unusedSimpArgs false
set_option linter.unusedVariables false
/-- A state's bytes, and why not. -/
def stF (n : Int) (s : St) : List Int × Int :=
  if isI n = false then ([], 2) else if ¬ rightF s = 0 then ([], rightF s) else (numB n ++ (pieceF s.text ++ (chsF s.undo ++ chsF s.redo)), 0)
theorem stF_n {n : Int} {s : St} (h : isI n = false) : stF n s = ([], 2) := if_pos h
theorem stF_r {n : Int} {s : St} (h : isI n = true) (hr : ¬ rightF s = 0) : stF n s = ([], rightF s) := by unfold stF; rw [if_neg (by rw [h]; decide), if_pos hr]
theorem stF_ok {n : Int} {s : St} (h : isI n = true) (hr : rightF s = 0) : stF n s = (numB n ++ (pieceF s.text ++ (chsF s.undo ++ chsF s.redo)), 0) := by unfold stF; rw [if_neg (by rw [h]; decide), if_neg (fun q => q hr)]
theorem St.ok.ru {s : St} (h : s.ok) : ∀ c ∈ s.undo, R32s c.gone ∧ R32s c.came := fun c hc => ⟨(h.undo c hc).rgone, (h.undo c hc).rcame⟩
theorem St.ok.rr {s : St} (h : s.ok) : ∀ c ∈ s.redo, R32s c.gone ∧ R32s c.came := fun c hc => ⟨(h.redo c hc).rgone, (h.redo c hc).rcame⟩
theorem chsF_le {l : List Ch} (h : ∀ c ∈ l, c.small) : (chsF l).length ≤ 1 + l.length * 16000012 := by
  have := flat_le h
  simp only [chsF, List.length_cons]; omega
theorem DBC4 : type_of% (And.intro @List.length_map.{0,0} (And.intro @bs_len (And.intro @rn_len (And.intro @chs_len (And.intro @chs_cnt (And.intro @List.length_append.{0} (And.intro @List.length_cons.{0} @List.length_nil.{0}))))))) := ⟨@List.length_map.{0,0}, @bs_len, @rn_len, @chs_len, @chs_cnt, @List.length_append.{0}, @List.length_cons.{0}, @List.length_nil.{0}⟩
set_option maxRecDepth 10000 in
set_option maxHeartbeats 4000000 in
theorem wstate_ok (n : Int) (s : St) (hs : s.ok) : CallOk Tryz.prog 32 [i64 n, s.x] (.tup [.one (.sr 0), .one (.v (.raw (.int .i64 (stF n s).2)))]) [(5, 1, bs (stF n s).1)] true := by
  have hu : ∀ c ∈ s.undo, c.small := fun c hc => (hs.undo c hc).small
  have hr : ∀ c ∈ s.redo, c.small := fun c hc => (hs.redo c hc).small
  have l1 := pieceF_le s.text; have l2 := chsF_le hu; have l3 := chsF_le hr; have := hs.len; have := hs.ulen; have := hs.rlen
  have hR := right_ok goes_ok s hs
  simp only [St.x] at hR
  refine fn_ok' T_ok (orc_ok _) mixed Tryz.func32 rfl (by kernel_rfl) (lv [[0, 3], [0, 3, 9], [4, 5], [0, 3, 6], [0, 3, 6, 13], [4, 5], [4, 5]]) 26 rfl (by simp) rfl (fun _ => ⟨rfl, rows_raw⟩) ?_
  simp only [argsG, Nat.zero_add, Nat.reduceAdd, St.x]
  repeat' first
    | ((first
        | ((with_reducible refine vR_cons (by decide) ?_); generalize hk : KtR _ _ _ _ _ _ _ _ _ _ = k)
        | ((first
        | with_reducible refine vOps_cons' ?_
        | ((with_reducible apply orc_b); (focus (exact is_ok _; done)); (all_goals (intro hb; (try simp only [decide_eq_true_eq, decide_eq_false_iff_not, Bool.not_eq_true', Bool.not_eq_false', Bool.and_eq_true, Decidable.not_not] at hb))))
        | ((with_reducible apply orc_i); (focus (exact hR; done)))
        | ((with_reducible apply orc_m); (focus (exact number_ok [] _ (by simp); done)))
        | ((with_reducible apply orc_m); (focus (exact piece_ok _ _ hs.run (by omega) (by simp only [List.length_append, List.length_nil, numB_len]; omega); done)))
        | ((with_reducible apply orc_m); (focus (exact wchanges_ok _ _ (by omega) hu hs.ru (by simp only [List.length_append, List.length_nil, numB_len]; omega); done)))
        | ((with_reducible apply orc_m); (focus (exact wchanges_ok _ _ (by omega) hr hs.rr (by simp only [List.length_append, List.length_nil, numB_len]; omega); done)))) <;> generalize hk : Kt _ _ _ _ _ _ _ _ _ = k)) <;> (simp only [Tryz.f32, lv, E1, E2, E5, ET, T, mvB, bxB, sxB, rxB, fwd, fwds, inv, mOk, EB, simprocAttr, DBC4, Ch.x, Opn.x, St.x]; (try simp (disch := omega) only [wrap_in, Int.toNat_natCast, tv_rn]); subst hk))
    | with_reducible first | refine Kt_p ?_ | refine Kt_i (by kernel_rfl) ?_ | refine Kr_f (by kernel_rfl) ?_
    | (with_reducible refine Kr_t ?_; simp only [List.length_append, List.length_cons, List.length_nil, Nat.reduceAdd, Nat.reduceSub, List.drop_succ_cons, List.drop_zero])
    | with_reducible first | refine vR_nil ?_ | refine KtR_i (by kernel_rfl) ?_ | refine KrR_i (by kernel_rfl) ?_ | refine vR_skip (by decide) ?_
    | ((with_reducible refine vB_i ?_ ?_) <;> intro _ <;> (first | (exfalso; omega) | (exact absurd trivial ‹¬True›) | (try dsimp only [])))
    | ((with_reducible refine vOps_nil' ?_); refine Kr_i (by kernel_rfl) ?_; generalize hk : plain _ _ = G; simp only [lv, E3, E2, E5, rawX, deadX, EB, simprocAttr, DBC4, Ch.x, Opn.x, St.x] at hk; subst hk)
    | with_reducible refine vSeq_i ?_
    | with_reducible first | refine vRegion_i (by kernel_rfl) ?_ | refine Kv_i ?_
    | ((with_reducible apply vStrK_i); (focus (rfl; done)))
    | ((with_reducible refine imp_i ?_); intro _)
    | with_reducible first | refine Ks_n ?_ | refine Ks_r ?_ | refine Ks_e ?_ | refine Kl_e ?_ | refine Kx_n ?_ | refine Kl_r ?_ | refine vRet_i ?_ | refine vSkip_i ?_ | refine vExit_i ?_ | refine vBlock_i ?_ | refine Ks_p ?_ | refine Kl_p ?_ | refine blk_p ?_ | exact Kb_p | refine vGoto_i ?_ | refine vLabel_i ?_ | refine Ks_g ?_ | refine Kl_g ?_ | refine blk_g ?_ | refine jmp_g ?_ | refine jmp_n ?_ | refine jmp_r ?_ | refine nog_n ?_ | refine nog_r ?_ | refine blk_n ?_ | refine blk_r ?_ | refine blk_e ?_ | refine blk_o (by decide) ?_ | refine cp_t ?_ | refine cp_f ?_
    | ((with_reducible apply vCond_x); (focus (simp only [lv, E1, E2, E5, ET, T, mvB, bxB, sxB, rxB, fwd, fwds, inv, mOk, EB, simprocAttr, DBC4, Ch.x, Opn.x, St.x]; with_reducible first | exact Eq.refl (bo true) | exact Eq.refl (bo false))))
    | ((with_reducible refine And.intro ?_ ?_); (focus (try omega)))
  · rename_i k
    rw [stF_ok (isI_t hb) k]
    refine Kf_r ?_
    simp only [Tryz.f32, E4, E3, E2, E5, rawX, deadX, ET, T, EB, simprocAttr, DBC4, Ch.x, Opn.x, St.x, List.append_assoc]
  · rename_i k
    rw [stF_r (isI_t hb) k]
    refine Kf_r ?_
    simp only [Tryz.f32, E4, E3, E2, E5, rawX, deadX, ET, T, EB, simprocAttr, DBC4, Ch.x, Opn.x, St.x, bs_nil]
  · rw [stF_n (isI_f hb)]
    refine Kf_r ?_
    simp only [Tryz.f32, E4, E3, E2, E5, rawX, deadX, ET, T, EB, simprocAttr, DBC4, Ch.x, Opn.x, St.x, bs_nil]
end Go.Proofs.YtdpflafjfkooeaaGreatDoorG
