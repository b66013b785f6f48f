/- YtncabdcaamkhiaaZ16: a part of the proof, joined of its texts. -/
import Derived.Test.YtncabdcaamkhiaaZ15
namespace Go.Proofs.YtncabdcaamkhiaaG
open Go Go.RowKit Go.Proofs
set_option linter.unusedSimpArgs false
set_option linter.unusedVariables false
theorem tv_prs0 : ∀ {l : List (Int × Int)} {m : Nat}, m < l.length → (List.map TV.v (prs l)).getD (m * 2) .dead = .v (.raw (.int .i64 (l.getD m (0, 0)).1))
  | [], _, h => absurd h (Nat.not_lt_zero _)
  | a :: W, 0, _ => rfl
  | a :: W, m + 1, h => by
    have := tv_prs0 (l := W) (m := m) (by simpa using h)
    rw [show (m + 1) * 2 = m * 2 + 1 + 1 by omega]
    simpa only [prs, List.flatMap_cons, List.cons_append, List.nil_append, List.map_cons, List.getD_cons_succ] using this
theorem tv_prs1 : ∀ {l : List (Int × Int)} {m : Nat}, m < l.length → (List.map TV.v (prs l)).getD (m * 2 + 1) .dead = .v (.raw (.int .i64 (l.getD m (0, 0)).2))
  | [], _, h => absurd h (Nat.not_lt_zero _)
  | a :: W, 0, _ => rfl
  | a :: W, m + 1, h => by
    have := tv_prs1 (l := W) (m := m) (by simpa using h)
    rw [show (m + 1) * 2 + 1 = m * 2 + 1 + 1 + 1 by omega]
    simpa only [prs, List.flatMap_cons, List.cons_append, List.nil_append, List.map_cons, List.getD_cons_succ] using this
end Go.Proofs.YtncabdcaamkhiaaG
namespace Go.Proofs.YtncabdcaamkhiaaG
open Go Go.RowKit Go.Proofs
set_option linter.unusedSimpArgs false
set_option linter.unusedVariables false
theorem nts_cnt (l : List Int) : cnt 1 (nts l) = l.length := by unfold cnt; rw [nts_len]; omega
/-- The marks behind a place follow it. -/
def spr (u : List Int) (d : Int) : Nat → Nat → List Int → List Int
  | 0, _, now => now
  | f + 1, j, now => if u.getD j 0 = 9 then spr u d f (j + 1) (now.set j d) else now
def putF (u : List Int) (d : Int) (i : Nat) (now : List Int) : List Int := spr u d (now.length - (i + 1)) (i + 1) (now.set i d)
def stpF (u : List Int) (e sos : Int) (now : List Int) (p : Int × Int) : List Int :=
  if dirF now p.1.toNat p.2.toNat e sos = 0 then now else putF u (dirF now p.1.toNat p.2.toNat e sos) p.2.toNat (putF u (dirF now p.1.toNat p.2.toNat e sos) p.1.toNat now)
def resF (l u t : List Int) (e sos : Int) : List Int := (prsF l t).foldl (stpF u e sos) t
theorem spr_len (u : List Int) (d : Int) : ∀ f j now, (spr u d f j now).length = now.length
  | 0, _, _ => rfl
  | f + 1, j, now => by
    unfold spr; split
    · rw [spr_len u d f]; exact List.length_set ..
    · rfl
theorem put_len (u : List Int) (d : Int) (i : Nat) (now : List Int) : (putF u d i now).length = now.length := by
  unfold putF; rw [spr_len]; exact List.length_set ..
theorem stp_len (u : List Int) (e sos : Int) (now : List Int) (p : Int × Int) : (stpF u e sos now p).length = now.length := by
  unfold stpF; split
  · rfl
  · rw [put_len, put_len]
theorem fold_len (u : List Int) (e sos : Int) : ∀ (P : List (Int × Int)) (now : List Int), (P.foldl (stpF u e sos) now).length = now.length
  | [], _ => rfl
  | p :: P, now => by rw [List.foldl_cons, fold_len u e sos P, stp_len]
theorem fold_take {u : List Int} {e sos : Int} {P : List (Int × Int)} {t : List Int} {k : Nat} (h : k < P.length) : (P.take (k + 1)).foldl (stpF u e sos) t = stpF u e sos ((P.take k).foldl (stpF u e sos) t) (P.getD k (0, 0)) := by
  rw [List.take_add_one, List.foldl_append, List.getElem?_eq_getElem h]
  simp [List.getD, List.getElem?_eq_getElem h]
theorem prsF_mem {l t : List Int} {p : Int × Int} (h : p ∈ prsF l t) : 0 ≤ p.1 ∧ p.1 < p.2 ∧ p.2 < (l.length : Int) := by
  have hok := stW_ok l t l.length
  unfold prsF at h
  rw [rising_mem (List.nodup_append.1 hok.nd).2.1 (fun p hp => by have := hok.pr p hp; omega)] at h
  exact hok.pr p h
theorem prsF_len (l t : List Int) : (prsF l t).length ≤ l.length := rising_len _ _
set_option maxRecDepth 10000 in
set_option maxHeartbeats 4000000 in
theorem resolve_good (l u t : List Int) (lev sos : Int) (hl : l.length ≤ 2000000) (h1 : u.length = l.length) (h2 : t.length = l.length) (hv : 0 ≤ lev ∧ lev ≤ 126) (hs : sos = 1 ∨ sos = 2) (hf : formedF t = true) :
    CallOk Try.prog 15 [sl (rn l), sl (nts u), sl (nts t), i64 lev, i64 sos] (.tup [.one (.sr 0), .one (.v (.raw (.int .i64 0)))]) [(3, 1, nts (resF l u t (1 + lev.tmod 2) sos))] true := by
  have he : 1 + lev.tmod 2 = 1 ∨ 1 + lev.tmod 2 = 2 := by rw [Int.tmod_eq_emod_of_nonneg hv.1]; omega
  refine fn_ok' T_ok (orc_ok _) mixed Try.func15 rfl (by kernel_rfl) (lv [[0, 1, 2, 3, 4], [0, 1, 2, 3, 4, 21], [0, 1, 2, 3, 4, 21], [0, 1, 2, 3, 4, 21], [0, 1, 2, 3, 4, 21], [0, 1, 2, 3, 4, 21], [10, 11], [0, 1, 2, 3, 4, 42], [10, 11], [0, 1, 2, 3, 4, 12], [1, 3, 4, 12, 13], [1, 3, 4, 12, 55, 56, 57], [1, 3, 4, 12, 55, 56, 57, 58], [1, 3, 4, 12, 16, 55, 56, 57], [1, 3, 4, 12, 16, 17, 55, 56, 57], [1, 3, 4, 12, 16, 17, 55, 56, 57, 69], [1, 3, 4, 12, 17, 55, 56, 57, 70, 71], [1, 3, 4, 12, 17, 55, 56, 57, 70, 71, 72], [1, 3, 4, 12, 17, 19, 55, 56, 57, 70, 71], [1, 3, 4, 12, 17, 19, 55, 56, 57, 70, 71], [1, 3, 4, 12, 17, 20, 55, 56, 57, 70, 71], [1, 3, 4, 12, 17, 20, 55, 56, 57, 70, 71, 90], [1, 3, 4, 12, 17, 20, 55, 56, 57, 70, 71], [1, 3, 4, 12, 17, 20, 55, 56, 57, 70, 71], [1, 3, 4, 12, 17, 55, 56, 57, 70, 71], [1, 3, 4, 12, 55, 56, 57], [10, 11]]) 100 rfl (by simp) rfl (fun _ => ⟨by simp [X.all, PX.all, TV.rawR, SV.isRaw], fun r hr => by simp only [List.mem_singleton] at hr; subst hr; exact nts_raw⟩) ?_
  simp only [argsG, Nat.zero_add, Nat.reduceAdd]
  repeat' first
    | ((first
        | ((with_reducible refine vR_cons (by decide) ?_); generalize hk : KtR _ _ _ _ _ _ _ _ _ _ = k)
        | ((first
        | with_reducible refine vOps_cons' ?_
        | ((with_reducible apply orc_b); (focus (exact formed_ok t (by omega); done)); (all_goals (intro hb; (try simp only [decide_eq_true_eq, decide_eq_false_iff_not, Bool.not_eq_true', Bool.not_eq_false', Bool.and_eq_true, Decidable.not_not] at hb))))
        | ((with_reducible apply orc_i); (focus (exact pairs_ok l t h2 hl; done)))) <;> generalize hk : Kt _ _ _ _ _ _ _ _ _ = k)) <;> (simp only [Try.f15, lv, E1, E2, E5, ET, T, orc_mv, noO_mv, mvB, orc_bx, noO_bx, bxB, orc_sx, noO_sx, sxB, fwd, fwds, inv, mOk, Int.toNat_natCast, Nat.div_one, Nat.mul_one, Int.reduceToNat, SB, List.not_mem_nil, ↓reduceIte, ne_eq, reduceCtorEq, Nat.reduceLT, Nat.reduceEqDiff, Nat.reduceAdd, Nat.reduceMul, Nat.reduceLeDiff, Nat.reduceDiv, Nat.reduceMod, Nat.reduceSub, Nat.reduceBEq, List.length_map, rn_len, nts_len, prs_len, prs_cnt, nts_cnt, cnt_two, List.length_set, Int.add_sub_cancel]; (try simp (disch := omega) only [wrap_in, Int.toNat_natCast, tv_rn, tv_nts, tv_prs0, tv_prs1]); subst hk))
    | with_reducible first | refine Kt_p ?_ | refine Kt_i (by kernel_rfl) ?_ | refine Kr_f (by kernel_rfl) ?_
    | (with_reducible refine Kr_t ?_; simp only [List.length_append, List.length_cons, List.length_nil, Nat.reduceAdd, Nat.reduceSub, List.drop_succ_cons, List.drop_zero])
    | with_reducible first | refine vR_nil ?_ | refine KtR_i (by kernel_rfl) ?_ | refine KrR_i (by kernel_rfl) ?_ | refine vR_skip (by decide) ?_
    | ((with_reducible refine vB_i ?_ ?_) <;> intro _ <;> (first | (exfalso; omega) | (exact absurd trivial ‹¬True›) | (try dsimp only [])))
    | ((with_reducible refine vOps_nil' ?_); refine Kr_i (by kernel_rfl) ?_; generalize hk : plain _ _ = G; simp only [lv, E3, E2, E5, rawX, deadX, SB, List.not_mem_nil, ↓reduceIte, ne_eq, reduceCtorEq, Nat.reduceLT, Nat.reduceEqDiff, Nat.reduceAdd, Nat.reduceMul, Nat.reduceLeDiff, Nat.reduceDiv, Nat.reduceMod, Nat.reduceSub, Nat.reduceBEq, List.length_map, rn_len, nts_len, prs_len, prs_cnt, nts_cnt, cnt_two, List.length_set, Int.add_sub_cancel] at hk; subst hk)
    | with_reducible refine vSeq_i ?_
    | with_reducible first | refine vRegion_i (by kernel_rfl) ?_ | refine Kv_i ?_
    | ((with_reducible apply vStrK_i); (focus (rfl; done)))
    | ((with_reducible refine imp_i ?_); intro _)
    | with_reducible first | refine Ks_n ?_ | refine Ks_r ?_ | refine Ks_e ?_ | refine Kl_e ?_ | refine Kx_n ?_ | refine Kl_r ?_ | refine vRet_i ?_ | refine vSkip_i ?_ | refine vExit_i ?_ | refine vBlock_i ?_ | refine Ks_p ?_ | refine Kl_p ?_ | refine blk_p ?_ | exact Kb_p | refine vGoto_i ?_ | refine vLabel_i ?_ | refine Ks_g ?_ | refine Kl_g ?_ | refine blk_g ?_ | refine jmp_g ?_ | refine jmp_n ?_ | refine jmp_r ?_ | refine nog_n ?_ | refine nog_r ?_ | refine blk_n ?_ | refine blk_r ?_ | refine blk_e ?_ | refine blk_o (by decide) ?_ | refine cp_t ?_ | refine cp_f ?_
    | ((with_reducible apply vCond_x); (focus (simp only [lv, E1, E2, E5, ET, T, orc_mv, noO_mv, mvB, orc_bx, noO_bx, bxB, orc_sx, noO_sx, sxB, fwd, fwds, inv, mOk, Int.toNat_natCast, Nat.div_one, Nat.mul_one, Int.reduceToNat, SB, List.not_mem_nil, ↓reduceIte, ne_eq, reduceCtorEq, Nat.reduceLT, Nat.reduceEqDiff, Nat.reduceAdd, Nat.reduceMul, Nat.reduceLeDiff, Nat.reduceDiv, Nat.reduceMod, Nat.reduceSub, Nat.reduceBEq, List.length_map, rn_len, nts_len, prs_len, prs_cnt, nts_cnt, cnt_two, List.length_set, Int.add_sub_cancel]; with_reducible first | exact Eq.refl (bo true) | exact Eq.refl (bo false))))
    | ((with_reducible refine And.intro ?_ ?_); (focus (try omega)))
  all_goals try (exfalso; omega)
  all_goals try (exfalso; rw [hb] at hf; exact absurd hf (by decide))
  all_goals
    clear hf hb
    obtain ⟨e, hee⟩ : ∃ e, e = 1 + lev.tmod 2 := ⟨_, rfl⟩
    rw [← hee] at he ⊢
    obtain ⟨P, hP⟩ : ∃ P, P = prsF l t := ⟨_, rfl⟩
    have hPm : ∀ p ∈ P, 0 ≤ p.1 ∧ p.1 < p.2 ∧ p.2 < (l.length : Int) := fun p hp => prsF_mem (hP ▸ hp)
    have hPl : P.length ≤ l.length := hP ▸ prsF_len l t
    have hR : resF l u t e sos = P.foldl (stpF u e sos) t := by rw [hP]; rfl
    rw [← hP, hR]
    refine vLoop_s (fun k : Nat => [(.t 1, .t (sl (nts u))), (.t 3, .t (i64 lev)), (.t 4, .t (i64 sos)), (.t 12, .t (.p (.one (.sr 0)))), (.t 55, .t (.p (.one (.sr 1)))), (.t 56, .t (i64 P.length)), (.t 57, .t (i64 k)), (.row 0, .row 3 1 (nts ((P.take k).foldl (stpF u e sos) t))), (.row 1, .row 42 2 (prs P))]) (fun k => k ≤ P.length) (fun k => P.length - k) 0 (by omega) rfl ?_
    rintro k hk
    by_cases hkl : k < P.length
    · have hft := fold_take (u := u) (e := e) (sos := sos) (t := t) hkl
      have hnl : ((P.take k).foldl (stpF u e sos) t).length = t.length := fold_len ..
      have hpm := hPm (P.getD k (0, 0)) (by rw [List.getD_eq_getElem?_getD, List.getElem?_eq_getElem hkl]; exact List.getElem_mem hkl)
      obtain ⟨a, ha⟩ : ∃ a : Nat, (P.getD k (0, 0)).1 = (a : Int) := ⟨(P.getD k (0, 0)).1.toNat, by omega⟩
      obtain ⟨b, hb⟩ : ∃ b : Nat, (P.getD k (0, 0)).2 = (b : Int) := ⟨(P.getD k (0, 0)).2.toNat, by omega⟩
      rw [ha, hb] at hpm
      simp only [stpF, ha, hb, Int.toNat_natCast] at hft
      obtain ⟨now, hnow⟩ : ∃ now, now = (P.take k).foldl (stpF u e sos) t := ⟨_, rfl⟩
      rw [← hnow] at hnl hft ⊢
      have hdir := direction_ok now a b e sos (by omega) (by omega) (by omega) he
      have hee' : 1 + lev.tmod 2 = e := hee.symm
      repeat' first
        | ((first
            | ((with_reducible refine vR_cons (by decide) ?_); generalize hk : KtR _ _ _ _ _ _ _ _ _ _ = k)
            | ((first
            | with_reducible refine vOps_cons' ?_
            | ((with_reducible apply orc_i); (focus ((simp only [ha, hb]; first | exact hdir | (rw [hee']; exact hdir)); done)))) <;> generalize hk : Kt _ _ _ _ _ _ _ _ _ = k)) <;> (simp only [Try.f15, lv, E1, E2, E5, ET, T, orc_mv, noO_mv, mvB, orc_bx, noO_bx, bxB, orc_sx, noO_sx, sxB, fwd, fwds, inv, mOk, Int.toNat_natCast, Nat.div_one, Nat.mul_one, Int.reduceToNat, SB, List.not_mem_nil, ↓reduceIte, ne_eq, reduceCtorEq, Nat.reduceLT, Nat.reduceEqDiff, Nat.reduceAdd, Nat.reduceMul, Nat.reduceLeDiff, Nat.reduceDiv, Nat.reduceMod, Nat.reduceSub, Nat.reduceBEq, List.length_map, rn_len, nts_len, prs_len, prs_cnt, nts_cnt, cnt_two, List.length_set, Int.add_sub_cancel]; (try simp (disch := omega) only [wrap_in, Int.toNat_natCast, tv_rn, tv_nts, tv_prs0, tv_prs1]); subst hk))
        | with_reducible first | refine Kt_p ?_ | refine Kt_i (by kernel_rfl) ?_ | refine Kr_f (by kernel_rfl) ?_
        | (with_reducible refine Kr_t ?_; simp only [List.length_append, List.length_cons, List.length_nil, Nat.reduceAdd, Nat.reduceSub, List.drop_succ_cons, List.drop_zero])
        | with_reducible first | refine vR_nil ?_ | refine KtR_i (by kernel_rfl) ?_ | refine KrR_i (by kernel_rfl) ?_ | refine vR_skip (by decide) ?_
        | ((with_reducible refine vB_i ?_ ?_) <;> intro _ <;> (first | (exfalso; omega) | (exact absurd trivial ‹¬True›) | (try dsimp only [])))
        | ((with_reducible refine vOps_nil' ?_); refine Kr_i (by kernel_rfl) ?_; generalize hk : plain _ _ = G; simp only [lv, E3, E2, E5, rawX, deadX, SB, List.not_mem_nil, ↓reduceIte, ne_eq, reduceCtorEq, Nat.reduceLT, Nat.reduceEqDiff, Nat.reduceAdd, Nat.reduceMul, Nat.reduceLeDiff, Nat.reduceDiv, Nat.reduceMod, Nat.reduceSub, Nat.reduceBEq, List.length_map, rn_len, nts_len, prs_len, prs_cnt, nts_cnt, cnt_two, List.length_set, Int.add_sub_cancel] at hk; subst hk)
        | with_reducible refine vSeq_i ?_
        | with_reducible first | refine vRegion_i (by kernel_rfl) ?_ | refine Kv_i ?_
        | ((with_reducible apply vStrK_i); (focus (rfl; done)))
        | ((with_reducible refine imp_i ?_); intro _)
        | with_reducible first | refine Ks_n ?_ | refine Ks_r ?_ | refine Ks_e ?_ | refine Kl_e ?_ | refine Kx_n ?_ | refine Kl_r ?_ | refine vRet_i ?_ | refine vSkip_i ?_ | refine vExit_i ?_ | refine vBlock_i ?_ | refine Ks_p ?_ | refine Kl_p ?_ | refine blk_p ?_ | exact Kb_p | refine vGoto_i ?_ | refine vLabel_i ?_ | refine Ks_g ?_ | refine Kl_g ?_ | refine blk_g ?_ | refine jmp_g ?_ | refine jmp_n ?_ | refine jmp_r ?_ | refine nog_n ?_ | refine nog_r ?_ | refine blk_n ?_ | refine blk_r ?_ | refine blk_e ?_ | refine blk_o (by decide) ?_ | refine cp_t ?_ | refine cp_f ?_
        | ((with_reducible apply vCond_x); (focus (simp only [lv, E1, E2, E5, ET, T, orc_mv, noO_mv, mvB, orc_bx, noO_bx, bxB, orc_sx, noO_sx, sxB, fwd, fwds, inv, mOk, Int.toNat_natCast, Nat.div_one, Nat.mul_one, Int.reduceToNat, SB, List.not_mem_nil, ↓reduceIte, ne_eq, reduceCtorEq, Nat.reduceLT, Nat.reduceEqDiff, Nat.reduceAdd, Nat.reduceMul, Nat.reduceLeDiff, Nat.reduceDiv, Nat.reduceMod, Nat.reduceSub, Nat.reduceBEq, List.length_map, rn_len, nts_len, prs_len, prs_cnt, nts_cnt, cnt_two, List.length_set, Int.add_sub_cancel]; with_reducible first | exact Eq.refl (bo true) | exact Eq.refl (bo false))))
        | ((with_reducible refine And.intro ?_ ?_); (focus (try omega)))
      all_goals try (exfalso; omega)
      · rename_i q
        rw [if_pos q] at hft
        exact Kl_n ⟨k + 1, by omega, by omega, by simp only [Int.natCast_add, Int.natCast_one, hft]⟩
      · rename_i q
        rw [if_neg q] at hft
        simp only [ha, hb]
        obtain ⟨d, hd⟩ : ∃ d, d = dirF now a b e sos := ⟨_, rfl⟩
        rw [← hd] at hft ⊢
        refine vLoop_s (fun j : Nat => [(.t 1, .t (sl (nts u))), (.t 3, .t (i64 lev)), (.t 4, .t (i64 sos)), (.t 12, .t (.p (.one (.sr 0)))), (.t 17, .t (i64 d)), (.t 55, .t (.p (.one (.sr 1)))), (.t 56, .t (i64 P.length)), (.t 57, .t (i64 k)), (.t 70, .t (pr2 a b)), (.t 71, .t (i64 j)), (.row 0, .row 3 1 (nts (if j = 0 then now else if j = 1 then putF u d a now else putF u d b (putF u d a now)))), (.row 1, .row 42 2 (prs P))]) (fun j => j ≤ 2) (fun j => 2 - j) 0 (by omega) rfl ?_
        rintro j hj
        obtain rfl | rfl | rfl : j = 0 ∨ j = 1 ∨ j = 2 := by omega
        · skip
          simp only [Nat.reduceAdd, Nat.reduceEqDiff, if_true, if_false, Nat.one_ne_zero]
          have hML : (now).length = t.length := by first | exact hnl | (rw [put_len]; exact hnl)
          repeat' first
            | ((first
                | ((with_reducible refine vR_cons (by decide) ?_); generalize hk : KtR _ _ _ _ _ _ _ _ _ _ = k)
                | ((first
                | with_reducible refine vOps_cons' ?_) <;> generalize hk : Kt _ _ _ _ _ _ _ _ _ = k)) <;> (simp only [Try.f15, lv, E1, E2, E5, ET, T, orc_mv, noO_mv, mvB, orc_bx, noO_bx, bxB, orc_sx, noO_sx, sxB, fwd, fwds, inv, mOk, Int.toNat_natCast, Nat.div_one, Nat.mul_one, Int.reduceToNat, SB, List.not_mem_nil, ↓reduceIte, ne_eq, reduceCtorEq, Nat.reduceLT, Nat.reduceEqDiff, Nat.reduceAdd, Nat.reduceMul, Nat.reduceLeDiff, Nat.reduceDiv, Nat.reduceMod, Nat.reduceSub, Nat.reduceBEq, List.length_map, rn_len, nts_len, prs_len, prs_cnt, nts_cnt, cnt_two, List.length_set, Int.add_sub_cancel]; (try simp (disch := omega) only [wrap_in, Int.toNat_natCast, tv_rn, tv_nts, tv_prs0, tv_prs1]); subst hk))
            | with_reducible first | refine Kt_p ?_ | refine Kt_i (by kernel_rfl) ?_ | refine Kr_f (by kernel_rfl) ?_
            | (with_reducible refine Kr_t ?_; simp only [List.length_append, List.length_cons, List.length_nil, Nat.reduceAdd, Nat.reduceSub, List.drop_succ_cons, List.drop_zero])
            | with_reducible first | refine vR_nil ?_ | refine KtR_i (by kernel_rfl) ?_ | refine KrR_i (by kernel_rfl) ?_ | refine vR_skip (by decide) ?_
            | ((with_reducible refine vB_i ?_ ?_) <;> intro _ <;> (first | (exfalso; omega) | (exact absurd trivial ‹¬True›) | (try dsimp only [])))
            | ((with_reducible refine vOps_nil' ?_); refine Kr_i (by kernel_rfl) ?_; generalize hk : plain _ _ = G; simp only [lv, E3, E2, E5, rawX, deadX, SB, List.not_mem_nil, ↓reduceIte, ne_eq, reduceCtorEq, Nat.reduceLT, Nat.reduceEqDiff, Nat.reduceAdd, Nat.reduceMul, Nat.reduceLeDiff, Nat.reduceDiv, Nat.reduceMod, Nat.reduceSub, Nat.reduceBEq, List.length_map, rn_len, nts_len, prs_len, prs_cnt, nts_cnt, cnt_two, List.length_set, Int.add_sub_cancel] at hk; subst hk)
            | with_reducible refine vSeq_i ?_
            | with_reducible first | refine vRegion_i (by kernel_rfl) ?_ | refine Kv_i ?_
            | ((with_reducible apply vStrK_i); (focus (rfl; done)))
            | ((with_reducible refine imp_i ?_); intro _)
            | with_reducible first | refine Ks_n ?_ | refine Ks_r ?_ | refine Ks_e ?_ | refine Kl_e ?_ | refine Kx_n ?_ | refine Kl_r ?_ | refine vRet_i ?_ | refine vSkip_i ?_ | refine vExit_i ?_ | refine vBlock_i ?_ | refine Ks_p ?_ | refine Kl_p ?_ | refine blk_p ?_ | exact Kb_p | refine vGoto_i ?_ | refine vLabel_i ?_ | refine Ks_g ?_ | refine Kl_g ?_ | refine blk_g ?_ | refine jmp_g ?_ | refine jmp_n ?_ | refine jmp_r ?_ | refine nog_n ?_ | refine nog_r ?_ | refine blk_n ?_ | refine blk_r ?_ | refine blk_e ?_ | refine blk_o (by decide) ?_ | refine cp_t ?_ | refine cp_f ?_
            | ((with_reducible apply vCond_x); (focus (simp only [lv, E1, E2, E5, ET, T, orc_mv, noO_mv, mvB, orc_bx, noO_bx, bxB, orc_sx, noO_sx, sxB, fwd, fwds, inv, mOk, Int.toNat_natCast, Nat.div_one, Nat.mul_one, Int.reduceToNat, SB, List.not_mem_nil, ↓reduceIte, ne_eq, reduceCtorEq, Nat.reduceLT, Nat.reduceEqDiff, Nat.reduceAdd, Nat.reduceMul, Nat.reduceLeDiff, Nat.reduceDiv, Nat.reduceMod, Nat.reduceSub, Nat.reduceBEq, List.length_map, rn_len, nts_len, prs_len, prs_cnt, nts_cnt, cnt_two, List.length_set, Int.add_sub_cancel]; with_reducible first | exact Eq.refl (bo true) | exact Eq.refl (bo false))))
            | ((with_reducible refine And.intro ?_ ?_); (focus (try omega)))
          all_goals try (exfalso; omega)
          refine vLoop_s (fun z : Nat × List Int => [(.t 1, .t (sl (nts u))), (.t 3, .t (i64 lev)), (.t 4, .t (i64 sos)), (.t 12, .t (.p (.one (.sr 0)))), (.t 17, .t (i64 d)), (.t 20, .t (i64 z.1)), (.t 55, .t (.p (.one (.sr 1)))), (.t 56, .t (i64 P.length)), (.t 57, .t (i64 k)), (.t 70, .t (pr2 a b)), (.t 71, .t (i64 ((0 : Nat) : Int))), (.row 0, .row 3 1 (nts z.2)), (.row 1, .row 42 2 (prs P))]) (fun z => z.1 ≤ t.length ∧ z.2.length = t.length ∧ spr u d (t.length - z.1) z.1 z.2 = putF u d a (now)) (fun z => t.length - z.1) (a + 1, (now).set a d) ⟨by show a + 1 ≤ t.length; omega, by rw [List.length_set]; exact hML, by rw [show putF u d a (now) = spr u d ((now).length - (a + 1)) (a + 1) ((now).set a d) from rfl, hML]⟩ (by rw [← nts_upd (by omega)]; simp only [Int.natCast_add, Int.natCast_one]) ?_
          rintro ⟨z, M'⟩ ⟨hz, hM', hsp⟩
          simp only [] at hz hM' hsp
          repeat' first
            | ((first
                | ((with_reducible refine vR_cons (by decide) ?_); generalize hk : KtR _ _ _ _ _ _ _ _ _ _ = k)
                | ((first
                | with_reducible refine vOps_cons' ?_) <;> generalize hk : Kt _ _ _ _ _ _ _ _ _ = k)) <;> (simp only [Try.f15, lv, E1, E2, E5, ET, T, orc_mv, noO_mv, mvB, orc_bx, noO_bx, bxB, orc_sx, noO_sx, sxB, fwd, fwds, inv, mOk, Int.toNat_natCast, Nat.div_one, Nat.mul_one, Int.reduceToNat, SB, List.not_mem_nil, ↓reduceIte, ne_eq, reduceCtorEq, Nat.reduceLT, Nat.reduceEqDiff, Nat.reduceAdd, Nat.reduceMul, Nat.reduceLeDiff, Nat.reduceDiv, Nat.reduceMod, Nat.reduceSub, Nat.reduceBEq, List.length_map, rn_len, nts_len, prs_len, prs_cnt, nts_cnt, cnt_two, List.length_set, Int.add_sub_cancel]; (try simp (disch := omega) only [wrap_in, Int.toNat_natCast, tv_rn, tv_nts, tv_prs0, tv_prs1]); subst hk))
            | with_reducible first | refine Kt_p ?_ | refine Kt_i (by kernel_rfl) ?_ | refine Kr_f (by kernel_rfl) ?_
            | (with_reducible refine Kr_t ?_; simp only [List.length_append, List.length_cons, List.length_nil, Nat.reduceAdd, Nat.reduceSub, List.drop_succ_cons, List.drop_zero])
            | with_reducible first | refine vR_nil ?_ | refine KtR_i (by kernel_rfl) ?_ | refine KrR_i (by kernel_rfl) ?_ | refine vR_skip (by decide) ?_
            | ((with_reducible refine vB_i ?_ ?_) <;> intro _ <;> (first | (exfalso; omega) | (exact absurd trivial ‹¬True›) | (try dsimp only [])))
            | ((with_reducible refine vOps_nil' ?_); refine Kr_i (by kernel_rfl) ?_; generalize hk : plain _ _ = G; simp only [lv, E3, E2, E5, rawX, deadX, SB, List.not_mem_nil, ↓reduceIte, ne_eq, reduceCtorEq, Nat.reduceLT, Nat.reduceEqDiff, Nat.reduceAdd, Nat.reduceMul, Nat.reduceLeDiff, Nat.reduceDiv, Nat.reduceMod, Nat.reduceSub, Nat.reduceBEq, List.length_map, rn_len, nts_len, prs_len, prs_cnt, nts_cnt, cnt_two, List.length_set, Int.add_sub_cancel] at hk; subst hk)
            | with_reducible refine vSeq_i ?_
            | with_reducible first | refine vRegion_i (by kernel_rfl) ?_ | refine Kv_i ?_
            | ((with_reducible apply vStrK_i); (focus (rfl; done)))
            | ((with_reducible refine imp_i ?_); intro _)
            | with_reducible first | refine Ks_n ?_ | refine Ks_r ?_ | refine Ks_e ?_ | refine Kl_e ?_ | refine Kx_n ?_ | refine Kl_r ?_ | refine vRet_i ?_ | refine vSkip_i ?_ | refine vExit_i ?_ | refine vBlock_i ?_ | refine Ks_p ?_ | refine Kl_p ?_ | refine blk_p ?_ | exact Kb_p | refine vGoto_i ?_ | refine vLabel_i ?_ | refine Ks_g ?_ | refine Kl_g ?_ | refine blk_g ?_ | refine jmp_g ?_ | refine jmp_n ?_ | refine jmp_r ?_ | refine nog_n ?_ | refine nog_r ?_ | refine blk_n ?_ | refine blk_r ?_ | refine blk_e ?_ | refine blk_o (by decide) ?_ | refine cp_t ?_ | refine cp_f ?_
            | ((with_reducible apply vCond_x); (focus (simp only [lv, E1, E2, E5, ET, T, orc_mv, noO_mv, mvB, orc_bx, noO_bx, bxB, orc_sx, noO_sx, sxB, fwd, fwds, inv, mOk, Int.toNat_natCast, Nat.div_one, Nat.mul_one, Int.reduceToNat, SB, List.not_mem_nil, ↓reduceIte, ne_eq, reduceCtorEq, Nat.reduceLT, Nat.reduceEqDiff, Nat.reduceAdd, Nat.reduceMul, Nat.reduceLeDiff, Nat.reduceDiv, Nat.reduceMod, Nat.reduceSub, Nat.reduceBEq, List.length_map, rn_len, nts_len, prs_len, prs_cnt, nts_cnt, cnt_two, List.length_set, Int.add_sub_cancel]; with_reducible first | exact Eq.refl (bo true) | exact Eq.refl (bo false))))
            | ((with_reducible refine And.intro ?_ ?_); (focus (try omega)))
          all_goals try (exfalso; omega)
          · rename_i q1 q2
            rw [show t.length - z = (t.length - (z + 1)) + 1 by omega, spr, if_pos q2] at hsp
            exact Kl_n ⟨(z + 1, M'.set z d), ⟨by show z + 1 ≤ t.length; omega, by rw [List.length_set]; exact hM', hsp⟩, by show t.length - (z + 1) < t.length - z; omega, by rw [← nts_upd (by omega)]; simp only [Int.natCast_add, Int.natCast_one]⟩
          · rename_i q1 q2
            rw [show t.length - z = (t.length - (z + 1)) + 1 by omega, spr, if_neg q2] at hsp
            exact Kl_n ⟨1, by omega, by omega, by rw [hsp]; rfl⟩
          · rename_i q1
            rw [show t.length - z = 0 by omega, spr] at hsp
            exact Kl_n ⟨1, by omega, by omega, by rw [hsp]; rfl⟩
        · skip
          simp only [Nat.reduceAdd, Nat.reduceEqDiff, if_true, if_false, Nat.one_ne_zero]
          have hML : (putF u d a now).length = t.length := by first | exact hnl | (rw [put_len]; exact hnl)
          repeat' first
            | ((first
                | ((with_reducible refine vR_cons (by decide) ?_); generalize hk : KtR _ _ _ _ _ _ _ _ _ _ = k)
                | ((first
                | with_reducible refine vOps_cons' ?_) <;> generalize hk : Kt _ _ _ _ _ _ _ _ _ = k)) <;> (simp only [Try.f15, lv, E1, E2, E5, ET, T, orc_mv, noO_mv, mvB, orc_bx, noO_bx, bxB, orc_sx, noO_sx, sxB, fwd, fwds, inv, mOk, Int.toNat_natCast, Nat.div_one, Nat.mul_one, Int.reduceToNat, SB, List.not_mem_nil, ↓reduceIte, ne_eq, reduceCtorEq, Nat.reduceLT, Nat.reduceEqDiff, Nat.reduceAdd, Nat.reduceMul, Nat.reduceLeDiff, Nat.reduceDiv, Nat.reduceMod, Nat.reduceSub, Nat.reduceBEq, List.length_map, rn_len, nts_len, prs_len, prs_cnt, nts_cnt, cnt_two, List.length_set, Int.add_sub_cancel]; (try simp (disch := omega) only [wrap_in, Int.toNat_natCast, tv_rn, tv_nts, tv_prs0, tv_prs1]); subst hk))
            | with_reducible first | refine Kt_p ?_ | refine Kt_i (by kernel_rfl) ?_ | refine Kr_f (by kernel_rfl) ?_
            | (with_reducible refine Kr_t ?_; simp only [List.length_append, List.length_cons, List.length_nil, Nat.reduceAdd, Nat.reduceSub, List.drop_succ_cons, List.drop_zero])
            | with_reducible first | refine vR_nil ?_ | refine KtR_i (by kernel_rfl) ?_ | refine KrR_i (by kernel_rfl) ?_ | refine vR_skip (by decide) ?_
            | ((with_reducible refine vB_i ?_ ?_) <;> intro _ <;> (first | (exfalso; omega) | (exact absurd trivial ‹¬True›) | (try dsimp only [])))
            | ((with_reducible refine vOps_nil' ?_); refine Kr_i (by kernel_rfl) ?_; generalize hk : plain _ _ = G; simp only [lv, E3, E2, E5, rawX, deadX, SB, List.not_mem_nil, ↓reduceIte, ne_eq, reduceCtorEq, Nat.reduceLT, Nat.reduceEqDiff, Nat.reduceAdd, Nat.reduceMul, Nat.reduceLeDiff, Nat.reduceDiv, Nat.reduceMod, Nat.reduceSub, Nat.reduceBEq, List.length_map, rn_len, nts_len, prs_len, prs_cnt, nts_cnt, cnt_two, List.length_set, Int.add_sub_cancel] at hk; subst hk)
            | with_reducible refine vSeq_i ?_
            | with_reducible first | refine vRegion_i (by kernel_rfl) ?_ | refine Kv_i ?_
            | ((with_reducible apply vStrK_i); (focus (rfl; done)))
            | ((with_reducible refine imp_i ?_); intro _)
            | with_reducible first | refine Ks_n ?_ | refine Ks_r ?_ | refine Ks_e ?_ | refine Kl_e ?_ | refine Kx_n ?_ | refine Kl_r ?_ | refine vRet_i ?_ | refine vSkip_i ?_ | refine vExit_i ?_ | refine vBlock_i ?_ | refine Ks_p ?_ | refine Kl_p ?_ | refine blk_p ?_ | exact Kb_p | refine vGoto_i ?_ | refine vLabel_i ?_ | refine Ks_g ?_ | refine Kl_g ?_ | refine blk_g ?_ | refine jmp_g ?_ | refine jmp_n ?_ | refine jmp_r ?_ | refine nog_n ?_ | refine nog_r ?_ | refine blk_n ?_ | refine blk_r ?_ | refine blk_e ?_ | refine blk_o (by decide) ?_ | refine cp_t ?_ | refine cp_f ?_
            | ((with_reducible apply vCond_x); (focus (simp only [lv, E1, E2, E5, ET, T, orc_mv, noO_mv, mvB, orc_bx, noO_bx, bxB, orc_sx, noO_sx, sxB, fwd, fwds, inv, mOk, Int.toNat_natCast, Nat.div_one, Nat.mul_one, Int.reduceToNat, SB, List.not_mem_nil, ↓reduceIte, ne_eq, reduceCtorEq, Nat.reduceLT, Nat.reduceEqDiff, Nat.reduceAdd, Nat.reduceMul, Nat.reduceLeDiff, Nat.reduceDiv, Nat.reduceMod, Nat.reduceSub, Nat.reduceBEq, List.length_map, rn_len, nts_len, prs_len, prs_cnt, nts_cnt, cnt_two, List.length_set, Int.add_sub_cancel]; with_reducible first | exact Eq.refl (bo true) | exact Eq.refl (bo false))))
            | ((with_reducible refine And.intro ?_ ?_); (focus (try omega)))
          all_goals try (exfalso; omega)
          refine vLoop_s (fun z : Nat × List Int => [(.t 1, .t (sl (nts u))), (.t 3, .t (i64 lev)), (.t 4, .t (i64 sos)), (.t 12, .t (.p (.one (.sr 0)))), (.t 17, .t (i64 d)), (.t 20, .t (i64 z.1)), (.t 55, .t (.p (.one (.sr 1)))), (.t 56, .t (i64 P.length)), (.t 57, .t (i64 k)), (.t 70, .t (pr2 a b)), (.t 71, .t (i64 ((1 : Nat) : Int))), (.row 0, .row 3 1 (nts z.2)), (.row 1, .row 42 2 (prs P))]) (fun z => z.1 ≤ t.length ∧ z.2.length = t.length ∧ spr u d (t.length - z.1) z.1 z.2 = putF u d b (putF u d a now)) (fun z => t.length - z.1) (b + 1, (putF u d a now).set b d) ⟨by show b + 1 ≤ t.length; omega, by rw [List.length_set]; exact hML, by rw [show putF u d b (putF u d a now) = spr u d ((putF u d a now).length - (b + 1)) (b + 1) ((putF u d a now).set b d) from rfl, hML]⟩ (by rw [← nts_upd (by omega)]; simp only [Int.natCast_add, Int.natCast_one]) ?_
          rintro ⟨z, M'⟩ ⟨hz, hM', hsp⟩
          simp only [] at hz hM' hsp
          repeat' first
            | ((first
                | ((with_reducible refine vR_cons (by decide) ?_); generalize hk : KtR _ _ _ _ _ _ _ _ _ _ = k)
                | ((first
                | with_reducible refine vOps_cons' ?_) <;> generalize hk : Kt _ _ _ _ _ _ _ _ _ = k)) <;> (simp only [Try.f15, lv, E1, E2, E5, ET, T, orc_mv, noO_mv, mvB, orc_bx, noO_bx, bxB, orc_sx, noO_sx, sxB, fwd, fwds, inv, mOk, Int.toNat_natCast, Nat.div_one, Nat.mul_one, Int.reduceToNat, SB, List.not_mem_nil, ↓reduceIte, ne_eq, reduceCtorEq, Nat.reduceLT, Nat.reduceEqDiff, Nat.reduceAdd, Nat.reduceMul, Nat.reduceLeDiff, Nat.reduceDiv, Nat.reduceMod, Nat.reduceSub, Nat.reduceBEq, List.length_map, rn_len, nts_len, prs_len, prs_cnt, nts_cnt, cnt_two, List.length_set, Int.add_sub_cancel]; (try simp (disch := omega) only [wrap_in, Int.toNat_natCast, tv_rn, tv_nts, tv_prs0, tv_prs1]); subst hk))
            | with_reducible first | refine Kt_p ?_ | refine Kt_i (by kernel_rfl) ?_ | refine Kr_f (by kernel_rfl) ?_
            | (with_reducible refine Kr_t ?_; simp only [List.length_append, List.length_cons, List.length_nil, Nat.reduceAdd, Nat.reduceSub, List.drop_succ_cons, List.drop_zero])
            | with_reducible first | refine vR_nil ?_ | refine KtR_i (by kernel_rfl) ?_ | refine KrR_i (by kernel_rfl) ?_ | refine vR_skip (by decide) ?_
            | ((with_reducible refine vB_i ?_ ?_) <;> intro _ <;> (first | (exfalso; omega) | (exact absurd trivial ‹¬True›) | (try dsimp only [])))
            | ((with_reducible refine vOps_nil' ?_); refine Kr_i (by kernel_rfl) ?_; generalize hk : plain _ _ = G; simp only [lv, E3, E2, E5, rawX, deadX, SB, List.not_mem_nil, ↓reduceIte, ne_eq, reduceCtorEq, Nat.reduceLT, Nat.reduceEqDiff, Nat.reduceAdd, Nat.reduceMul, Nat.reduceLeDiff, Nat.reduceDiv, Nat.reduceMod, Nat.reduceSub, Nat.reduceBEq, List.length_map, rn_len, nts_len, prs_len, prs_cnt, nts_cnt, cnt_two, List.length_set, Int.add_sub_cancel] at hk; subst hk)
            | with_reducible refine vSeq_i ?_
            | with_reducible first | refine vRegion_i (by kernel_rfl) ?_ | refine Kv_i ?_
            | ((with_reducible apply vStrK_i); (focus (rfl; done)))
            | ((with_reducible refine imp_i ?_); intro _)
            | with_reducible first | refine Ks_n ?_ | refine Ks_r ?_ | refine Ks_e ?_ | refine Kl_e ?_ | refine Kx_n ?_ | refine Kl_r ?_ | refine vRet_i ?_ | refine vSkip_i ?_ | refine vExit_i ?_ | refine vBlock_i ?_ | refine Ks_p ?_ | refine Kl_p ?_ | refine blk_p ?_ | exact Kb_p | refine vGoto_i ?_ | refine vLabel_i ?_ | refine Ks_g ?_ | refine Kl_g ?_ | refine blk_g ?_ | refine jmp_g ?_ | refine jmp_n ?_ | refine jmp_r ?_ | refine nog_n ?_ | refine nog_r ?_ | refine blk_n ?_ | refine blk_r ?_ | refine blk_e ?_ | refine blk_o (by decide) ?_ | refine cp_t ?_ | refine cp_f ?_
            | ((with_reducible apply vCond_x); (focus (simp only [lv, E1, E2, E5, ET, T, orc_mv, noO_mv, mvB, orc_bx, noO_bx, bxB, orc_sx, noO_sx, sxB, fwd, fwds, inv, mOk, Int.toNat_natCast, Nat.div_one, Nat.mul_one, Int.reduceToNat, SB, List.not_mem_nil, ↓reduceIte, ne_eq, reduceCtorEq, Nat.reduceLT, Nat.reduceEqDiff, Nat.reduceAdd, Nat.reduceMul, Nat.reduceLeDiff, Nat.reduceDiv, Nat.reduceMod, Nat.reduceSub, Nat.reduceBEq, List.length_map, rn_len, nts_len, prs_len, prs_cnt, nts_cnt, cnt_two, List.length_set, Int.add_sub_cancel]; with_reducible first | exact Eq.refl (bo true) | exact Eq.refl (bo false))))
            | ((with_reducible refine And.intro ?_ ?_); (focus (try omega)))
          all_goals try (exfalso; omega)
          · rename_i q1 q2
            rw [show t.length - z = (t.length - (z + 1)) + 1 by omega, spr, if_pos q2] at hsp
            exact Kl_n ⟨(z + 1, M'.set z d), ⟨by show z + 1 ≤ t.length; omega, by rw [List.length_set]; exact hM', hsp⟩, by show t.length - (z + 1) < t.length - z; omega, by rw [← nts_upd (by omega)]; simp only [Int.natCast_add, Int.natCast_one]⟩
          · rename_i q1 q2
            rw [show t.length - z = (t.length - (z + 1)) + 1 by omega, spr, if_neg q2] at hsp
            exact Kl_n ⟨2, by omega, by omega, by rw [hsp]; rfl⟩
          · rename_i q1
            rw [show t.length - z = 0 by omega, spr] at hsp
            exact Kl_n ⟨2, by omega, by omega, by rw [hsp]; rfl⟩
        · skip
          repeat' first
            | ((first
                | ((with_reducible refine vR_cons (by decide) ?_); generalize hk : KtR _ _ _ _ _ _ _ _ _ _ = k)
                | ((first
                | with_reducible refine vOps_cons' ?_) <;> generalize hk : Kt _ _ _ _ _ _ _ _ _ = k)) <;> (simp only [Try.f15, lv, E1, E2, E5, ET, T, orc_mv, noO_mv, mvB, orc_bx, noO_bx, bxB, orc_sx, noO_sx, sxB, fwd, fwds, inv, mOk, Int.toNat_natCast, Nat.div_one, Nat.mul_one, Int.reduceToNat, SB, List.not_mem_nil, ↓reduceIte, ne_eq, reduceCtorEq, Nat.reduceLT, Nat.reduceEqDiff, Nat.reduceAdd, Nat.reduceMul, Nat.reduceLeDiff, Nat.reduceDiv, Nat.reduceMod, Nat.reduceSub, Nat.reduceBEq, List.length_map, rn_len, nts_len, prs_len, prs_cnt, nts_cnt, cnt_two, List.length_set, Int.add_sub_cancel]; (try simp (disch := omega) only [wrap_in, Int.toNat_natCast, tv_rn, tv_nts, tv_prs0, tv_prs1]); subst hk))
            | with_reducible first | refine Kt_p ?_ | refine Kt_i (by kernel_rfl) ?_ | refine Kr_f (by kernel_rfl) ?_
            | (with_reducible refine Kr_t ?_; simp only [List.length_append, List.length_cons, List.length_nil, Nat.reduceAdd, Nat.reduceSub, List.drop_succ_cons, List.drop_zero])
            | with_reducible first | refine vR_nil ?_ | refine KtR_i (by kernel_rfl) ?_ | refine KrR_i (by kernel_rfl) ?_ | refine vR_skip (by decide) ?_
            | ((with_reducible refine vB_i ?_ ?_) <;> intro _ <;> (first | (exfalso; omega) | (exact absurd trivial ‹¬True›) | (try dsimp only [])))
            | ((with_reducible refine vOps_nil' ?_); refine Kr_i (by kernel_rfl) ?_; generalize hk : plain _ _ = G; simp only [lv, E3, E2, E5, rawX, deadX, SB, List.not_mem_nil, ↓reduceIte, ne_eq, reduceCtorEq, Nat.reduceLT, Nat.reduceEqDiff, Nat.reduceAdd, Nat.reduceMul, Nat.reduceLeDiff, Nat.reduceDiv, Nat.reduceMod, Nat.reduceSub, Nat.reduceBEq, List.length_map, rn_len, nts_len, prs_len, prs_cnt, nts_cnt, cnt_two, List.length_set, Int.add_sub_cancel] at hk; subst hk)
            | with_reducible refine vSeq_i ?_
            | with_reducible first | refine vRegion_i (by kernel_rfl) ?_ | refine Kv_i ?_
            | ((with_reducible apply vStrK_i); (focus (rfl; done)))
            | ((with_reducible refine imp_i ?_); intro _)
            | with_reducible first | refine Ks_n ?_ | refine Ks_r ?_ | refine Ks_e ?_ | refine Kl_e ?_ | refine Kx_n ?_ | refine Kl_r ?_ | refine vRet_i ?_ | refine vSkip_i ?_ | refine vExit_i ?_ | refine vBlock_i ?_ | refine Ks_p ?_ | refine Kl_p ?_ | refine blk_p ?_ | exact Kb_p | refine vGoto_i ?_ | refine vLabel_i ?_ | refine Ks_g ?_ | refine Kl_g ?_ | refine blk_g ?_ | refine jmp_g ?_ | refine jmp_n ?_ | refine jmp_r ?_ | refine nog_n ?_ | refine nog_r ?_ | refine blk_n ?_ | refine blk_r ?_ | refine blk_e ?_ | refine blk_o (by decide) ?_ | refine cp_t ?_ | refine cp_f ?_
            | ((with_reducible apply vCond_x); (focus (simp only [lv, E1, E2, E5, ET, T, orc_mv, noO_mv, mvB, orc_bx, noO_bx, bxB, orc_sx, noO_sx, sxB, fwd, fwds, inv, mOk, Int.toNat_natCast, Nat.div_one, Nat.mul_one, Int.reduceToNat, SB, List.not_mem_nil, ↓reduceIte, ne_eq, reduceCtorEq, Nat.reduceLT, Nat.reduceEqDiff, Nat.reduceAdd, Nat.reduceMul, Nat.reduceLeDiff, Nat.reduceDiv, Nat.reduceMod, Nat.reduceSub, Nat.reduceBEq, List.length_map, rn_len, nts_len, prs_len, prs_cnt, nts_cnt, cnt_two, List.length_set, Int.add_sub_cancel]; with_reducible first | exact Eq.refl (bo true) | exact Eq.refl (bo false))))
            | ((with_reducible refine And.intro ?_ ?_); (focus (try omega)))
          all_goals try (exfalso; omega)
          exact Kl_n ⟨k + 1, by omega, by omega, by simp only [Int.natCast_add, Int.natCast_one, hft, Nat.reduceEqDiff, if_false, Nat.succ_ne_zero]; first | rfl | skip⟩
    · skip
      repeat' first
        | ((first
            | ((with_reducible refine vR_cons (by decide) ?_); generalize hk : KtR _ _ _ _ _ _ _ _ _ _ = k)
            | ((first
            | with_reducible refine vOps_cons' ?_) <;> generalize hk : Kt _ _ _ _ _ _ _ _ _ = k)) <;> (simp only [Try.f15, lv, E1, E2, E5, ET, T, orc_mv, noO_mv, mvB, orc_bx, noO_bx, bxB, orc_sx, noO_sx, sxB, fwd, fwds, inv, mOk, Int.toNat_natCast, Nat.div_one, Nat.mul_one, Int.reduceToNat, SB, List.not_mem_nil, ↓reduceIte, ne_eq, reduceCtorEq, Nat.reduceLT, Nat.reduceEqDiff, Nat.reduceAdd, Nat.reduceMul, Nat.reduceLeDiff, Nat.reduceDiv, Nat.reduceMod, Nat.reduceSub, Nat.reduceBEq, List.length_map, rn_len, nts_len, prs_len, prs_cnt, nts_cnt, cnt_two, List.length_set, Int.add_sub_cancel]; (try simp (disch := omega) only [wrap_in, Int.toNat_natCast, tv_rn, tv_nts, tv_prs0, tv_prs1]); subst hk))
        | with_reducible first | refine Kt_p ?_ | refine Kt_i (by kernel_rfl) ?_ | refine Kr_f (by kernel_rfl) ?_
        | (with_reducible refine Kr_t ?_; simp only [List.length_append, List.length_cons, List.length_nil, Nat.reduceAdd, Nat.reduceSub, List.drop_succ_cons, List.drop_zero])
        | with_reducible first | refine vR_nil ?_ | refine KtR_i (by kernel_rfl) ?_ | refine KrR_i (by kernel_rfl) ?_ | refine vR_skip (by decide) ?_
        | ((with_reducible refine vB_i ?_ ?_) <;> intro _ <;> (first | (exfalso; omega) | (exact absurd trivial ‹¬True›) | (try dsimp only [])))
        | ((with_reducible refine vOps_nil' ?_); refine Kr_i (by kernel_rfl) ?_; generalize hk : plain _ _ = G; simp only [lv, E3, E2, E5, rawX, deadX, SB, List.not_mem_nil, ↓reduceIte, ne_eq, reduceCtorEq, Nat.reduceLT, Nat.reduceEqDiff, Nat.reduceAdd, Nat.reduceMul, Nat.reduceLeDiff, Nat.reduceDiv, Nat.reduceMod, Nat.reduceSub, Nat.reduceBEq, List.length_map, rn_len, nts_len, prs_len, prs_cnt, nts_cnt, cnt_two, List.length_set, Int.add_sub_cancel] at hk; subst hk)
        | with_reducible refine vSeq_i ?_
        | with_reducible first | refine vRegion_i (by kernel_rfl) ?_ | refine Kv_i ?_
        | ((with_reducible apply vStrK_i); (focus (rfl; done)))
        | ((with_reducible refine imp_i ?_); intro _)
        | with_reducible first | refine Ks_n ?_ | refine Ks_r ?_ | refine Ks_e ?_ | refine Kl_e ?_ | refine Kx_n ?_ | refine Kl_r ?_ | refine vRet_i ?_ | refine vSkip_i ?_ | refine vExit_i ?_ | refine vBlock_i ?_ | refine Ks_p ?_ | refine Kl_p ?_ | refine blk_p ?_ | exact Kb_p | refine vGoto_i ?_ | refine vLabel_i ?_ | refine Ks_g ?_ | refine Kl_g ?_ | refine blk_g ?_ | refine jmp_g ?_ | refine jmp_n ?_ | refine jmp_r ?_ | refine nog_n ?_ | refine nog_r ?_ | refine blk_n ?_ | refine blk_r ?_ | refine blk_e ?_ | refine blk_o (by decide) ?_ | refine cp_t ?_ | refine cp_f ?_
        | ((with_reducible apply vCond_x); (focus (simp only [lv, E1, E2, E5, ET, T, orc_mv, noO_mv, mvB, orc_bx, noO_bx, bxB, orc_sx, noO_sx, sxB, fwd, fwds, inv, mOk, Int.toNat_natCast, Nat.div_one, Nat.mul_one, Int.reduceToNat, SB, List.not_mem_nil, ↓reduceIte, ne_eq, reduceCtorEq, Nat.reduceLT, Nat.reduceEqDiff, Nat.reduceAdd, Nat.reduceMul, Nat.reduceLeDiff, Nat.reduceDiv, Nat.reduceMod, Nat.reduceSub, Nat.reduceBEq, List.length_map, rn_len, nts_len, prs_len, prs_cnt, nts_cnt, cnt_two, List.length_set, Int.add_sub_cancel]; with_reducible first | exact Eq.refl (bo true) | exact Eq.refl (bo false))))
        | ((with_reducible refine And.intro ?_ ?_); (focus (try omega)))
      all_goals try (exfalso; omega)
      refine Kf_r ?_
      rw [show P.take k = P from List.take_of_length_le (by omega)]
      simp only [Try.f15, E4, E3, E2, E5, rawX, deadX, ET, T, SB, List.not_mem_nil, ↓reduceIte, ne_eq, reduceCtorEq, Nat.reduceLT, Nat.reduceEqDiff, Nat.reduceAdd, Nat.reduceMul, Nat.reduceLeDiff, Nat.reduceDiv, Nat.reduceMod, Nat.reduceSub, Nat.reduceBEq, List.length_map, rn_len, nts_len, prs_len, prs_cnt, nts_cnt, cnt_two, List.length_set, Int.add_sub_cancel]
end Go.Proofs.YtncabdcaamkhiaaG
namespace Go.Proofs.YtncabdcaamkhiaaG
open Go Go.RowKit Go.Proofs
set_option linter.unusedSimpArgs false
set_option linter.unusedVariables false
theorem ex_pairs : prsF [97, 40, 98, 41] [1, 14, 1, 14] = [(1, 3)] := by decide +kernel
theorem ex_res : resF [97, 40, 98, 41] [2, 14, 1, 14] [2, 14, 1, 14] 2 2 = [2, 2, 1, 2] := by decide +kernel
theorem ex_formed : formedF [2, 14, 1, 14] = true := by decide +kernel
set_option maxRecDepth 10000 in
set_option maxHeartbeats 4000000 in
theorem works_ok : CallOk Try.prog 9 [] (bo true) [] true := by
  have q1 := pairs_ok [97, 40, 98, 41] [1, 14, 1, 14] rfl (by decide)
  rw [ex_pairs, show prs [((1 : Int), (3 : Int))] = [.raw (.int .i64 1), .raw (.int .i64 3)] from rfl] at q1
  have q2 := resolve_good [97, 40, 98, 41] [2, 14, 1, 14] [2, 14, 1, 14] 1 2 (by decide) rfl rfl (by decide) (by decide) ex_formed
  rw [show (1 : Int) + (1 : Int).tmod 2 = 2 by decide, ex_res, show nts [2, 2, 1, 2] = [.raw (.int .i64 2), .raw (.int .i64 2), .raw (.int .i64 1), .raw (.int .i64 2)] from rfl] at q2
  have q3 := ints_ok [2, 2, 1, 2] [2, 2, 1, 2] (by decide) (by decide)
  rw [decide_eq_true rfl] at q3
  refine fn_ok' T_ok (orc_ok _) mixed Try.func9 rfl (by kernel_rfl) (lv [[], [1], [1, 2, 3], [2, 3, 4, 5], [0]]) 43 rfl (by simp) rfl (by simp [X.all, PX.all, TV.rawR, SV.isRaw]) ?_
  simp only [argsG, Nat.zero_add, Nat.reduceAdd]
  repeat' first
    | ((first
        | ((with_reducible refine vR_cons (by decide) ?_); generalize hk : KtR _ _ _ _ _ _ _ _ _ _ = k)
        | ((first
        | with_reducible refine vOps_cons' ?_
        | ((with_reducible apply orc_i); (focus (exact q1; done)))
        | ((with_reducible apply orc_i); (focus (exact q2; done)))
        | ((with_reducible apply orc_i); (focus (exact q3; done)))) <;> generalize hk : Kt _ _ _ _ _ _ _ _ _ = k)) <;> (simp only [Try.f9, lv, E1, E2, E5, ET, T, orc_mv, noO_mv, mvB, orc_bx, noO_bx, bxB, orc_sx, noO_sx, sxB, fwd, fwds, inv, mOk, Int.toNat_natCast, Nat.div_one, Nat.mul_one, Int.reduceToNat, SB, List.not_mem_nil, ↓reduceIte, ne_eq, reduceCtorEq, Nat.reduceLT, Nat.reduceEqDiff, Nat.reduceAdd, Nat.reduceMul, Nat.reduceLeDiff, Nat.reduceDiv, Nat.reduceMod, Nat.reduceSub, Nat.reduceBEq, List.map_cons, List.map_nil, List.getD_cons_zero, List.getD_cons_succ, List.length_map, rn_len, nts_len, prs_len, prs_cnt, nts_cnt, cnt_two, List.length_set]; (try simp (disch := omega) only [wrap_in, Int.toNat_natCast, tv_rn, tv_nts, tv_prs0, tv_prs1]); subst hk))
    | with_reducible first | refine Kt_p ?_ | refine Kt_i (by kernel_rfl) ?_ | refine Kr_f (by kernel_rfl) ?_
    | (with_reducible refine Kr_t ?_; simp only [List.length_append, List.length_cons, List.length_nil, Nat.reduceAdd, Nat.reduceSub, List.drop_succ_cons, List.drop_zero])
    | with_reducible first | refine vR_nil ?_ | refine KtR_i (by kernel_rfl) ?_ | refine KrR_i (by kernel_rfl) ?_ | refine vR_skip (by decide) ?_
    | ((with_reducible refine vB_i ?_ ?_) <;> intro _ <;> (first | (exfalso; omega) | (exact absurd trivial ‹¬True›) | (try dsimp only [])))
    | ((with_reducible refine vOps_nil' ?_); refine Kr_i (by kernel_rfl) ?_; generalize hk : plain _ _ = G; simp only [lv, E3, E2, E5, rawX, deadX, SB, List.not_mem_nil, ↓reduceIte, ne_eq, reduceCtorEq, Nat.reduceLT, Nat.reduceEqDiff, Nat.reduceAdd, Nat.reduceMul, Nat.reduceLeDiff, Nat.reduceDiv, Nat.reduceMod, Nat.reduceSub, Nat.reduceBEq, List.map_cons, List.map_nil, List.getD_cons_zero, List.getD_cons_succ, List.length_map, rn_len, nts_len, prs_len, prs_cnt, nts_cnt, cnt_two, List.length_set] at hk; subst hk)
    | with_reducible refine vSeq_i ?_
    | with_reducible first | refine vRegion_i (by kernel_rfl) ?_ | refine Kv_i ?_
    | ((with_reducible apply vStrK_i); (focus (rfl; done)))
    | ((with_reducible refine imp_i ?_); intro _)
    | with_reducible first | refine Ks_n ?_ | refine Ks_r ?_ | refine Ks_e ?_ | refine Kl_e ?_ | refine Kx_n ?_ | refine Kl_r ?_ | refine vRet_i ?_ | refine vSkip_i ?_ | refine vExit_i ?_ | refine vBlock_i ?_ | refine Ks_p ?_ | refine Kl_p ?_ | refine blk_p ?_ | exact Kb_p | refine vGoto_i ?_ | refine vLabel_i ?_ | refine Ks_g ?_ | refine Kl_g ?_ | refine blk_g ?_ | refine jmp_g ?_ | refine jmp_n ?_ | refine jmp_r ?_ | refine nog_n ?_ | refine nog_r ?_ | refine blk_n ?_ | refine blk_r ?_ | refine blk_e ?_ | refine blk_o (by decide) ?_ | refine cp_t ?_ | refine cp_f ?_
    | ((with_reducible apply vCond_x); (focus (simp only [lv, E1, E2, E5, ET, T, orc_mv, noO_mv, mvB, orc_bx, noO_bx, bxB, orc_sx, noO_sx, sxB, fwd, fwds, inv, mOk, Int.toNat_natCast, Nat.div_one, Nat.mul_one, Int.reduceToNat, SB, List.not_mem_nil, ↓reduceIte, ne_eq, reduceCtorEq, Nat.reduceLT, Nat.reduceEqDiff, Nat.reduceAdd, Nat.reduceMul, Nat.reduceLeDiff, Nat.reduceDiv, Nat.reduceMod, Nat.reduceSub, Nat.reduceBEq, List.map_cons, List.map_nil, List.getD_cons_zero, List.getD_cons_succ, List.length_map, rn_len, nts_len, prs_len, prs_cnt, nts_cnt, cnt_two, List.length_set]; with_reducible first | exact Eq.refl (bo true) | exact Eq.refl (bo false))))
    | ((with_reducible refine And.intro ?_ ?_); (focus (try omega)))
  all_goals try (exfalso; omega)
  all_goals refine Kf_r ?_
  all_goals simp only [Try.f9, E4, E3, E2, E5, rawX, deadX, ET, T, SB, List.not_mem_nil, ↓reduceIte, ne_eq, reduceCtorEq, Nat.reduceLT, Nat.reduceEqDiff, Nat.reduceAdd, Nat.reduceMul, Nat.reduceLeDiff, Nat.reduceDiv, Nat.reduceMod, Nat.reduceSub, Nat.reduceBEq, List.map_cons, List.map_nil, List.getD_cons_zero, List.getD_cons_succ, List.length_map, rn_len, nts_len, prs_len, prs_cnt, nts_cnt, cnt_two, List.length_set, X.p.injEq, X.tup.injEq, PX.one.injEq, PX.agg.injEq, TV.v.injEq, TV.sr.injEq, SV.raw.injEq, SV.sl.injEq, Value.bool.injEq, Value.int.injEq, List.cons.injEq, Prod.mk.injEq, true_and, and_true, and_self]
end Go.Proofs.YtncabdcaamkhiaaG
namespace Go.Proofs.YtncabdcaamkhiaaG
open Go Go.RowKit Go.Proofs
set_option linter.unusedSimpArgs false
set_option linter.unusedVariables false
theorem rn_cnt10 (l : List Int) : cnt 1 (rn l) = l.length := by unfold cnt; rw [rn_len]; omega
end Go.Proofs.YtncabdcaamkhiaaG
/- L10: layer 10's laws at what came in: texts of numbers, lists of numbers. -/
namespace Go.Proofs.YtncabdcaamkhiaaG
open Go Go.RowKit Go.Proofs Go.Proofs.Ytncabdcaamkhiaa
set_option linter.unusedVariables false
set_option linter.unusedSimpArgs false
theorem typ_nt10 {n : Nat} {x : SV} (h : Typ T n 23 [x]) : ∃ l : List Int, x = .sl 1 (nts l) ∧ l.length ≤ n := by
  obtain ⟨l, e, _, h2⟩ := h.ints (by rfl) (by rfl)
  simp only [List.cons.injEq, and_true] at e
  exact ⟨l, e, h2⟩
end Go.Proofs.YtncabdcaamkhiaaG
