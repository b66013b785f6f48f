/- YtdpflafjfkooeaaDoorZ18: a part of the proof, joined of its texts. -/
import Derived.Test.YtdpflafjfkooeaaDoorZ17
namespace Go.Proofs.YtdpflafjfkooeaaDoorG
open Go Go.RowKit Go.Proofs
set_option linter.unusedSimpArgs false
set_option linter.unusedVariables false
theorem walk_scal : ∀ {l : List Ch} {n : Nat} {t : List Int}, walkN l n t = true → ∀ j, j < n → scal (l.getD j noCh).gone ∧ scal (l.getD j noCh).came
  | l, 0, t, _, j, hj => by omega
  | l, n + 1, t, h, j, hj => by
    simp only [walkN, Bool.and_eq_true, decide_eq_true_eq] at h
    rcases Nat.lt_or_eq_of_le (Nat.le_of_lt_succ hj) with q | q
    · exact walk_scal h.2 j q
    · subst q; exact ⟨h.1.1.1, h.1.1.2.1⟩
theorem right_scal {s : St} (h : rightF s = 0) : scal s.text ∧ (∀ c ∈ s.undo, scal c.gone ∧ scal c.came) ∧ ∀ c ∈ s.redo, scal c.gone ∧ scal c.came := by
  unfold rightF at h
  split at h
  · exact absurd h (by decide)
  · split at h
    · exact absurd h (by decide)
    · rename_i hs
      split at h
      · exact absurd h (by decide)
      · rename_i hw
        have hw' : walkN (s.undo.map Ch.inv) s.undo.length s.text = true ∧ walkN s.redo s.redo.length s.text = true := by simpa using hw
        refine ⟨Decidable.not_not.1 hs, fun c hc => ?_, fun c hc => ?_⟩
        · obtain ⟨j, hj, rfl⟩ := List.getElem_of_mem hc
          have := walk_scal hw'.1 j hj
          rw [getD_inv] at this
          have e : s.undo.getD j noCh = s.undo[j] := by simp [List.getD, List.getElem?_eq_getElem hj]
          rw [e] at this
          exact ⟨this.2, this.1⟩
        · obtain ⟨j, hj, rfl⟩ := List.getElem_of_mem hc
          have := walk_scal hw'.2 j hj
          have e : s.redo.getD j noCh = s.redo[j] := by simp [List.getD, List.getElem?_eq_getElem hj]
          rw [e] at this
          exact this
theorem isI_0 : isI 0 = true := by decide
end Go.Proofs.YtdpflafjfkooeaaDoorG
namespace Go.Proofs.YtdpflafjfkooeaaDoorG
open Go Go.RowKit Go.Proofs
set_option linter.unusedSimpArgs false
set_option linter.unusedVariables false
theorem st_err (s : St) : (stF 0 s).2 = rightF s := by
  by_cases h : rightF s = 0
  · rw [stF_ok isI_0 h, h]
  · rw [stF_r isI_0 h]
set_option maxRecDepth 10000 in
theorem counted_ok (n : Int) (h0 : 0 ≤ n) (h1 : n < 2147483647) : CallOk Tryd.prog 41 [i64 n] (i64 0) [] true := by
  refine fn_ok' T_ok (orc_ok _) mixed Tryd.func41 rfl (by kernel_rfl) (lv [[0], [8], [2], [2]]) 9 rfl (by simp) rfl (by simp [X.all, PX.all, TV.rawR, SV.isRaw]) ?_
  simp only [argsG, Nat.zero_add, Nat.reduceAdd]
  repeat' first
    | ((first
        | ((with_reducible refine vR_cons (by decide) ?_); generalize hk : KtR _ _ _ _ _ _ _ _ _ _ = k)
        | ((first
        | with_reducible refine vOps_cons' ?_) <;> generalize hk : Kt _ _ _ _ _ _ _ _ _ = k)) <;> (simp only [Tryd.f41, lv, E1, E2, E5, ET, T, orc_mv, noO_mv, mvB, orc_bx, noO_bx, bxB, orc_sx, noO_sx, sxB, fwd, fwds, inv, mOk, Int.toNat_natCast, Nat.div_one, Nat.mul_one, Int.reduceToNat, SB, List.not_mem_nil, ↓reduceIte, ne_eq, reduceCtorEq, Nat.reduceLT, Nat.reduceEqDiff, Nat.reduceAdd, Nat.reduceMul, Nat.reduceLeDiff, Nat.reduceDiv, Nat.reduceMod, Nat.reduceSub, Nat.reduceBEq, List.length_map, bs_len, rn_len, chs_len, chs_cnt, List.length_append, List.length_cons, List.length_nil, Ch.x, Opn.x, St.x]; (try simp (disch := omega) only [wrap_in, Int.toNat_natCast, tv_rn]); subst hk))
    | with_reducible first | refine Kt_p ?_ | refine Kt_i (by kernel_rfl) ?_ | refine Kr_f (by kernel_rfl) ?_
    | (with_reducible refine Kr_t ?_; simp only [List.length_append, List.length_cons, List.length_nil, Nat.reduceAdd, Nat.reduceSub, List.drop_succ_cons, List.drop_zero])
    | with_reducible first | refine vR_nil ?_ | refine KtR_i (by kernel_rfl) ?_ | refine KrR_i (by kernel_rfl) ?_ | refine vR_skip (by decide) ?_
    | ((with_reducible refine vB_i ?_ ?_) <;> intro _ <;> (first | (exfalso; omega) | (exact absurd trivial ‹¬True›) | (try dsimp only [])))
    | ((with_reducible refine vOps_nil' ?_); refine Kr_i (by kernel_rfl) ?_; generalize hk : plain _ _ = G; simp only [lv, E3, E2, E5, rawX, deadX, SB, List.not_mem_nil, ↓reduceIte, ne_eq, reduceCtorEq, Nat.reduceLT, Nat.reduceEqDiff, Nat.reduceAdd, Nat.reduceMul, Nat.reduceLeDiff, Nat.reduceDiv, Nat.reduceMod, Nat.reduceSub, Nat.reduceBEq, List.length_map, bs_len, rn_len, chs_len, chs_cnt, List.length_append, List.length_cons, List.length_nil, Ch.x, Opn.x, St.x] at hk; subst hk)
    | with_reducible refine vSeq_i ?_
    | with_reducible first | refine vRegion_i (by kernel_rfl) ?_ | refine Kv_i ?_
    | ((with_reducible apply vStrK_i); (focus (rfl; done)))
    | ((with_reducible refine imp_i ?_); intro _)
    | with_reducible first | refine Ks_n ?_ | refine Ks_r ?_ | refine Ks_e ?_ | refine Kl_e ?_ | refine Kx_n ?_ | refine Kl_r ?_ | refine vRet_i ?_ | refine vSkip_i ?_ | refine vExit_i ?_ | refine vBlock_i ?_ | refine Ks_p ?_ | refine Kl_p ?_ | refine blk_p ?_ | exact Kb_p | refine vGoto_i ?_ | refine vLabel_i ?_ | refine Ks_g ?_ | refine Kl_g ?_ | refine blk_g ?_ | refine jmp_g ?_ | refine jmp_n ?_ | refine jmp_r ?_ | refine nog_n ?_ | refine nog_r ?_ | refine blk_n ?_ | refine blk_r ?_ | refine blk_e ?_ | refine blk_o (by decide) ?_ | refine cp_t ?_ | refine cp_f ?_
    | ((with_reducible apply vCond_x); (focus (simp only [lv, E1, E2, E5, ET, T, orc_mv, noO_mv, mvB, orc_bx, noO_bx, bxB, orc_sx, noO_sx, sxB, fwd, fwds, inv, mOk, Int.toNat_natCast, Nat.div_one, Nat.mul_one, Int.reduceToNat, SB, List.not_mem_nil, ↓reduceIte, ne_eq, reduceCtorEq, Nat.reduceLT, Nat.reduceEqDiff, Nat.reduceAdd, Nat.reduceMul, Nat.reduceLeDiff, Nat.reduceDiv, Nat.reduceMod, Nat.reduceSub, Nat.reduceBEq, List.length_map, bs_len, rn_len, chs_len, chs_cnt, List.length_append, List.length_cons, List.length_nil, Ch.x, Opn.x, St.x]; with_reducible first | exact Eq.refl (bo true) | exact Eq.refl (bo false))))
    | ((with_reducible refine And.intro ?_ ?_); (focus (try omega)))
  refine Kf_r ?_
  simp only [Tryd.f41, E4, E3, E2, E5, rawX, deadX, ET, T, SB, List.not_mem_nil, ↓reduceIte, ne_eq, reduceCtorEq, Nat.reduceLT, Nat.reduceEqDiff, Nat.reduceAdd, Nat.reduceMul, Nat.reduceLeDiff, Nat.reduceDiv, Nat.reduceMod, Nat.reduceSub, Nat.reduceBEq, List.length_map, bs_len, rn_len, chs_len, chs_cnt, List.length_append, List.length_cons, List.length_nil, Ch.x, Opn.x, St.x]
end Go.Proofs.YtdpflafjfkooeaaDoorG
namespace Go.Proofs.YtdpflafjfkooeaaDoorG
open Go Go.RowKit Go.Proofs
set_option linter.unusedSimpArgs false
set_option linter.unusedVariables false
/-- An error's value: nil, or a pointer to its number. -/
def erX (e : Int) : X := .p (.one (.v (.ifc 107 (.pt [.raw (.int .i64 e)] 0))))
abbrev erN : X := .p (.one (.v (.raw .nilIface)))
theorem fr_al (w : World) (ob : Obj) (o : Nat → Tag) : Fr w (w.alloc ob) o o := ⟨rfl, rfl, rfl, by simp, fun b hb _ => ⟨Below.heap_alloc _ _ _ hb, rfl⟩, fun b hb ⟨k, hk⟩ => ⟨by rw [hk]; rfl, Shp.of_eq (Below.heap_alloc _ _ _ hb)⟩⟩
theorem one_arg {w : World} {g : Gh} {vs : List Value} {x : X} (h : All2 (XR w g) vs [x]) : ∃ v, vs = [v] ∧ XR w g v x := by
  cases vs with
  | nil => have := h.1; simp at this
  | cons v vs => cases vs with
    | nil => exact ⟨v, rfl, h.head⟩
    | cons v' vs => have := h.1; simp at this
theorem whyE_ok (n : Int) : CallOk Tryd.prog 42 [erX n] (i64 n) [] true := by
  refine ⟨callable_of Tryd.func42 (by kernel_rfl), rfl, fun _ => ⟨rfl, by simp⟩, fun w vs g hg hlt hgr ha => ?_⟩
  obtain ⟨c, rfl, hc⟩ := one_arg ha
  obtain ⟨h0, hcell⟩ := hgr rfl
  have hc' : SVR w g.o c (.ifc 107 (.pt [.raw (.int .i64 n)] 0)) := hc
  cases hc' with
  | ifc t u x hu => cases hu with
    | pt b off k xs us hb hl hm hr =>
      obtain ⟨u0, rfl⟩ : ∃ u0, us = [u0] := by
        match us, hl with
        | [u0], _ => exact ⟨u0, rfl⟩
      have h1 := hm 0 u0 rfl
      have h2 := hr 0 u0 _ rfl rfl
      have h3 : u0 = .int .i64 n := by cases h2; rfl
      subst h3
      rw [Nat.add_zero] at h1
      refine (why_hit ⟨b, off + 0, none⟩ n w (by rw [Nat.add_zero]; exact h1) hcell).mono ?_
      rintro e w' ⟨rfl, rfl⟩
      exact ⟨_, g, rfl, ((((fr_al _ _ _).trans (fr_al _ _ _)).trans (fr_al _ _ _)).trans (fr_al _ _ _)).trans (fr_al _ _ _), fun b hb => by have := hlt b hb; simp; omega, SVR.raw _ rfl, fun k ty e xs h => by simp at h⟩
set_option maxRecDepth 10000 in
set_option maxHeartbeats 4000000 in
theorem first_no : CallOk Tryd.prog 40 [sl [.raw (.int .i64 0), .raw (.int .i64 0)]] erN [] true := by
  refine fn_ok' T_ok (orc_ok _) mixed Tryd.func40 rfl (by kernel_rfl) (lv [[0], [5, 6, 7], [5, 6, 7, 8], [4, 5, 6, 7], [4, 5, 6, 7, 12], [2], [5, 6, 7], [2]]) 18 rfl (by simp) rfl (by simp [X.all, PX.all, TV.rawR, SV.isRaw]) ?_
  simp only [argsG, Nat.zero_add, Nat.reduceAdd]
  repeat' first
    | ((first
        | ((with_reducible refine vR_cons (by decide) ?_); generalize hk : KtR _ _ _ _ _ _ _ _ _ _ = k)
        | ((first
        | with_reducible refine vOps_cons' ?_) <;> generalize hk : Kt _ _ _ _ _ _ _ _ _ = k)) <;> (simp only [Tryd.f40, lv, E1, E2, E5, ET, T, orc_mv, noO_mv, mvB, orc_bx, noO_bx, bxB, orc_sx, noO_sx, sxB, fwd, fwds, inv, mOk, Int.toNat_natCast, Nat.div_one, Nat.mul_one, Int.reduceToNat, SB, List.not_mem_nil, ↓reduceIte, ne_eq, reduceCtorEq, Nat.reduceLT, Nat.reduceEqDiff, Nat.reduceAdd, Nat.reduceMul, Nat.reduceLeDiff, Nat.reduceDiv, Nat.reduceMod, Nat.reduceSub, Nat.reduceBEq, List.length_cons, List.length_nil, List.map_cons, List.map_nil, List.getD_cons_zero, List.getD_cons_succ]; (try simp (disch := omega) only [wrap_in, Int.toNat_natCast]); subst hk))
    | with_reducible first | refine Kt_p ?_ | refine Kt_i (by kernel_rfl) ?_ | refine Kr_f (by kernel_rfl) ?_
    | (with_reducible refine Kr_t ?_; simp only [List.length_append, List.length_cons, List.length_nil, Nat.reduceAdd, Nat.reduceSub, List.drop_succ_cons, List.drop_zero])
    | with_reducible first | refine vR_nil ?_ | refine KtR_i (by kernel_rfl) ?_ | refine KrR_i (by kernel_rfl) ?_ | refine vR_skip (by decide) ?_
    | ((with_reducible refine vB_i ?_ ?_) <;> intro _ <;> (first | (exfalso; omega) | (exact absurd trivial ‹¬True›) | (try dsimp only [])))
    | ((with_reducible refine vOps_nil' ?_); refine Kr_i (by kernel_rfl) ?_; generalize hk : plain _ _ = G; simp only [lv, E3, E2, E5, rawX, deadX, SB, List.not_mem_nil, ↓reduceIte, ne_eq, reduceCtorEq, Nat.reduceLT, Nat.reduceEqDiff, Nat.reduceAdd, Nat.reduceMul, Nat.reduceLeDiff, Nat.reduceDiv, Nat.reduceMod, Nat.reduceSub, Nat.reduceBEq, List.length_cons, List.length_nil, List.map_cons, List.map_nil, List.getD_cons_zero, List.getD_cons_succ] at hk; subst hk)
    | with_reducible refine vSeq_i ?_
    | with_reducible first | refine vRegion_i (by kernel_rfl) ?_ | refine Kv_i ?_
    | ((with_reducible apply vStrK_i); (focus (rfl; done)))
    | ((with_reducible refine imp_i ?_); intro _)
    | with_reducible first | refine Ks_n ?_ | refine Ks_r ?_ | refine Ks_e ?_ | refine Kl_e ?_ | refine Kx_n ?_ | refine Kl_r ?_ | refine vRet_i ?_ | refine vSkip_i ?_ | refine vExit_i ?_ | refine vBlock_i ?_ | refine Ks_p ?_ | refine Kl_p ?_ | refine blk_p ?_ | exact Kb_p | refine vGoto_i ?_ | refine vLabel_i ?_ | refine Ks_g ?_ | refine Kl_g ?_ | refine blk_g ?_ | refine jmp_g ?_ | refine jmp_n ?_ | refine jmp_r ?_ | refine nog_n ?_ | refine nog_r ?_ | refine blk_n ?_ | refine blk_r ?_ | refine blk_e ?_ | refine blk_o (by decide) ?_ | refine cp_t ?_ | refine cp_f ?_
    | ((with_reducible apply vCond_x); (focus (simp only [lv, E1, E2, E5, ET, T, orc_mv, noO_mv, mvB, orc_bx, noO_bx, bxB, orc_sx, noO_sx, sxB, fwd, fwds, inv, mOk, Int.toNat_natCast, Nat.div_one, Nat.mul_one, Int.reduceToNat, SB, List.not_mem_nil, ↓reduceIte, ne_eq, reduceCtorEq, Nat.reduceLT, Nat.reduceEqDiff, Nat.reduceAdd, Nat.reduceMul, Nat.reduceLeDiff, Nat.reduceDiv, Nat.reduceMod, Nat.reduceSub, Nat.reduceBEq, List.length_cons, List.length_nil, List.map_cons, List.map_nil, List.getD_cons_zero, List.getD_cons_succ]; with_reducible first | exact Eq.refl (bo true) | exact Eq.refl (bo false))))
    | ((with_reducible refine And.intro ?_ ?_); (focus (try omega)))
  refine vLoop_s (fun k : Nat => [(.t 5, .t (sl [.raw (.int .i64 0), .raw (.int .i64 0)])), (.t 6, .t (i64 2)), (.t 7, .t (i64 k))]) (fun k => k ≤ 2) (fun k => 2 - k) 0 (by omega) rfl ?_
  intro k hk
  obtain rfl | rfl | rfl : k = 0 ∨ k = 1 ∨ k = 2 := by omega
  all_goals
    repeat' first
      | ((first
          | ((with_reducible refine vR_cons (by decide) ?_); generalize hk : KtR _ _ _ _ _ _ _ _ _ _ = k)
          | ((first
          | with_reducible refine vOps_cons' ?_) <;> generalize hk : Kt _ _ _ _ _ _ _ _ _ = k)) <;> (simp only [Tryd.f40, lv, E1, E2, E5, ET, T, orc_mv, noO_mv, mvB, orc_bx, noO_bx, bxB, orc_sx, noO_sx, sxB, fwd, fwds, inv, mOk, Int.toNat_natCast, Nat.div_one, Nat.mul_one, Int.reduceToNat, SB, List.not_mem_nil, ↓reduceIte, ne_eq, reduceCtorEq, Nat.reduceLT, Nat.reduceEqDiff, Nat.reduceAdd, Nat.reduceMul, Nat.reduceLeDiff, Nat.reduceDiv, Nat.reduceMod, Nat.reduceSub, Nat.reduceBEq, List.length_cons, List.length_nil, List.map_cons, List.map_nil, List.getD_cons_zero, List.getD_cons_succ]; (try simp (disch := omega) only [wrap_in, Int.toNat_natCast]); subst hk))
      | with_reducible first | refine Kt_p ?_ | refine Kt_i (by kernel_rfl) ?_ | refine Kr_f (by kernel_rfl) ?_
      | (with_reducible refine Kr_t ?_; simp only [List.length_append, List.length_cons, List.length_nil, Nat.reduceAdd, Nat.reduceSub, List.drop_succ_cons, List.drop_zero])
      | with_reducible first | refine vR_nil ?_ | refine KtR_i (by kernel_rfl) ?_ | refine KrR_i (by kernel_rfl) ?_ | refine vR_skip (by decide) ?_
      | ((with_reducible refine vB_i ?_ ?_) <;> intro _ <;> (first | (exfalso; omega) | (exact absurd trivial ‹¬True›) | (try dsimp only [])))
      | ((with_reducible refine vOps_nil' ?_); refine Kr_i (by kernel_rfl) ?_; generalize hk : plain _ _ = G; simp only [lv, E3, E2, E5, rawX, deadX, SB, List.not_mem_nil, ↓reduceIte, ne_eq, reduceCtorEq, Nat.reduceLT, Nat.reduceEqDiff, Nat.reduceAdd, Nat.reduceMul, Nat.reduceLeDiff, Nat.reduceDiv, Nat.reduceMod, Nat.reduceSub, Nat.reduceBEq, List.length_cons, List.length_nil, List.map_cons, List.map_nil, List.getD_cons_zero, List.getD_cons_succ] at hk; subst hk)
      | with_reducible refine vSeq_i ?_
      | with_reducible first | refine vRegion_i (by kernel_rfl) ?_ | refine Kv_i ?_
      | ((with_reducible apply vStrK_i); (focus (rfl; done)))
      | ((with_reducible refine imp_i ?_); intro _)
      | with_reducible first | refine Ks_n ?_ | refine Ks_r ?_ | refine Ks_e ?_ | refine Kl_e ?_ | refine Kx_n ?_ | refine Kl_r ?_ | refine vRet_i ?_ | refine vSkip_i ?_ | refine vExit_i ?_ | refine vBlock_i ?_ | refine Ks_p ?_ | refine Kl_p ?_ | refine blk_p ?_ | exact Kb_p | refine vGoto_i ?_ | refine vLabel_i ?_ | refine Ks_g ?_ | refine Kl_g ?_ | refine blk_g ?_ | refine jmp_g ?_ | refine jmp_n ?_ | refine jmp_r ?_ | refine nog_n ?_ | refine nog_r ?_ | refine blk_n ?_ | refine blk_r ?_ | refine blk_e ?_ | refine blk_o (by decide) ?_ | refine cp_t ?_ | refine cp_f ?_
      | ((with_reducible apply vCond_x); (focus (simp only [lv, E1, E2, E5, ET, T, orc_mv, noO_mv, mvB, orc_bx, noO_bx, bxB, orc_sx, noO_sx, sxB, fwd, fwds, inv, mOk, Int.toNat_natCast, Nat.div_one, Nat.mul_one, Int.reduceToNat, SB, List.not_mem_nil, ↓reduceIte, ne_eq, reduceCtorEq, Nat.reduceLT, Nat.reduceEqDiff, Nat.reduceAdd, Nat.reduceMul, Nat.reduceLeDiff, Nat.reduceDiv, Nat.reduceMod, Nat.reduceSub, Nat.reduceBEq, List.length_cons, List.length_nil, List.map_cons, List.map_nil, List.getD_cons_zero, List.getD_cons_succ]; with_reducible first | exact Eq.refl (bo true) | exact Eq.refl (bo false))))
      | ((with_reducible refine And.intro ?_ ?_); (focus (try omega)))
    all_goals try (exfalso; omega)
  · exact Kl_n ⟨1, by omega, by omega, rfl⟩
  · exact Kl_n ⟨2, by omega, by omega, rfl⟩
  · refine Kf_r ?_
    simp only [Tryd.f40, E4, E3, E2, E5, rawX, deadX, ET, T, SB, List.not_mem_nil, ↓reduceIte, ne_eq, reduceCtorEq, Nat.reduceLT, Nat.reduceEqDiff, Nat.reduceAdd, Nat.reduceMul, Nat.reduceLeDiff, Nat.reduceDiv, Nat.reduceMod, Nat.reduceSub, Nat.reduceBEq, List.length_cons, List.length_nil, List.map_cons, List.map_nil, List.getD_cons_zero, List.getD_cons_succ]
set_option maxRecDepth 10000 in
set_option maxHeartbeats 4000000 in
theorem first_a (a b : Int) (ha : a ≠ 0) : CallOk Tryd.prog 40 [sl [.raw (.int .i64 a), .raw (.int .i64 b)]] (erX a) [] false := by
  refine fn_ok' T_ok (orc_ok _) mixed Tryd.func40 rfl (by kernel_rfl) (lv [[0], [5, 6, 7], [5, 6, 7, 8], [4, 5, 6, 7], [4, 5, 6, 7, 12], [2], [5, 6, 7], [2]]) 18 rfl (by simp) rfl (by simp) ?_
  simp only [argsG, Nat.zero_add, Nat.reduceAdd]
  repeat' first
    | ((first
        | ((with_reducible refine vR_cons (by decide) ?_); generalize hk : KtR _ _ _ _ _ _ _ _ _ _ = k)
        | ((first
        | with_reducible refine vOps_cons' ?_) <;> generalize hk : Kt _ _ _ _ _ _ _ _ _ = k)) <;> (simp only [Tryd.f40, lv, E1, E2, E5, ET, T, orc_mv, noO_mv, mvB, orc_bx, noO_bx, bxB, orc_sx, noO_sx, sxB, fwd, fwds, inv, mOk, Int.toNat_natCast, Nat.div_one, Nat.mul_one, Int.reduceToNat, SB, List.not_mem_nil, ↓reduceIte, ne_eq, reduceCtorEq, Nat.reduceLT, Nat.reduceEqDiff, Nat.reduceAdd, Nat.reduceMul, Nat.reduceLeDiff, Nat.reduceDiv, Nat.reduceMod, Nat.reduceSub, Nat.reduceBEq, List.length_cons, List.length_nil, List.map_cons, List.map_nil, List.getD_cons_zero, List.getD_cons_succ]; (try simp (disch := omega) only [wrap_in, Int.toNat_natCast]); subst hk))
    | with_reducible first | refine Kt_p ?_ | refine Kt_i (by kernel_rfl) ?_ | refine Kr_f (by kernel_rfl) ?_
    | (with_reducible refine Kr_t ?_; simp only [List.length_append, List.length_cons, List.length_nil, Nat.reduceAdd, Nat.reduceSub, List.drop_succ_cons, List.drop_zero])
    | with_reducible first | refine vR_nil ?_ | refine KtR_i (by kernel_rfl) ?_ | refine KrR_i (by kernel_rfl) ?_ | refine vR_skip (by decide) ?_
    | ((with_reducible refine vB_i ?_ ?_) <;> intro _ <;> (first | (exfalso; omega) | (exact absurd trivial ‹¬True›) | (try dsimp only [])))
    | ((with_reducible refine vOps_nil' ?_); refine Kr_i (by kernel_rfl) ?_; generalize hk : plain _ _ = G; simp only [lv, E3, E2, E5, rawX, deadX, SB, List.not_mem_nil, ↓reduceIte, ne_eq, reduceCtorEq, Nat.reduceLT, Nat.reduceEqDiff, Nat.reduceAdd, Nat.reduceMul, Nat.reduceLeDiff, Nat.reduceDiv, Nat.reduceMod, Nat.reduceSub, Nat.reduceBEq, List.length_cons, List.length_nil, List.map_cons, List.map_nil, List.getD_cons_zero, List.getD_cons_succ] at hk; subst hk)
    | with_reducible refine vSeq_i ?_
    | with_reducible first | refine vRegion_i (by kernel_rfl) ?_ | refine Kv_i ?_
    | ((with_reducible apply vStrK_i); (focus (rfl; done)))
    | ((with_reducible refine imp_i ?_); intro _)
    | with_reducible first | refine Ks_n ?_ | refine Ks_r ?_ | refine Ks_e ?_ | refine Kl_e ?_ | refine Kx_n ?_ | refine Kl_r ?_ | refine vRet_i ?_ | refine vSkip_i ?_ | refine vExit_i ?_ | refine vBlock_i ?_ | refine Ks_p ?_ | refine Kl_p ?_ | refine blk_p ?_ | exact Kb_p | refine vGoto_i ?_ | refine vLabel_i ?_ | refine Ks_g ?_ | refine Kl_g ?_ | refine blk_g ?_ | refine jmp_g ?_ | refine jmp_n ?_ | refine jmp_r ?_ | refine nog_n ?_ | refine nog_r ?_ | refine blk_n ?_ | refine blk_r ?_ | refine blk_e ?_ | refine blk_o (by decide) ?_ | refine cp_t ?_ | refine cp_f ?_
    | ((with_reducible apply vCond_x); (focus (simp only [lv, E1, E2, E5, ET, T, orc_mv, noO_mv, mvB, orc_bx, noO_bx, bxB, orc_sx, noO_sx, sxB, fwd, fwds, inv, mOk, Int.toNat_natCast, Nat.div_one, Nat.mul_one, Int.reduceToNat, SB, List.not_mem_nil, ↓reduceIte, ne_eq, reduceCtorEq, Nat.reduceLT, Nat.reduceEqDiff, Nat.reduceAdd, Nat.reduceMul, Nat.reduceLeDiff, Nat.reduceDiv, Nat.reduceMod, Nat.reduceSub, Nat.reduceBEq, List.length_cons, List.length_nil, List.map_cons, List.map_nil, List.getD_cons_zero, List.getD_cons_succ]; with_reducible first | exact Eq.refl (bo true) | exact Eq.refl (bo false))))
    | ((with_reducible refine And.intro ?_ ?_); (focus (try omega)))
  refine vLoop_s (fun k : Nat => [(.t 5, .t (sl [.raw (.int .i64 a), .raw (.int .i64 b)])), (.t 6, .t (i64 2)), (.t 7, .t (i64 k))]) (fun k => k = 0) (fun k => 2 - k) 0 (by omega) rfl ?_
  rintro k rfl
  repeat' first
    | ((first
        | ((with_reducible refine vR_cons (by decide) ?_); generalize hk : KtR _ _ _ _ _ _ _ _ _ _ = k)
        | ((first
        | with_reducible refine vOps_cons' ?_) <;> generalize hk : Kt _ _ _ _ _ _ _ _ _ = k)) <;> (simp only [Tryd.f40, lv, E1, E2, E5, ET, T, orc_mv, noO_mv, mvB, orc_bx, noO_bx, bxB, orc_sx, noO_sx, sxB, fwd, fwds, inv, mOk, Int.toNat_natCast, Nat.div_one, Nat.mul_one, Int.reduceToNat, SB, List.not_mem_nil, ↓reduceIte, ne_eq, reduceCtorEq, Nat.reduceLT, Nat.reduceEqDiff, Nat.reduceAdd, Nat.reduceMul, Nat.reduceLeDiff, Nat.reduceDiv, Nat.reduceMod, Nat.reduceSub, Nat.reduceBEq, List.length_cons, List.length_nil, List.map_cons, List.map_nil, List.getD_cons_zero, List.getD_cons_succ]; (try simp (disch := omega) only [wrap_in, Int.toNat_natCast]); subst hk))
    | with_reducible first | refine Kt_p ?_ | refine Kt_i (by kernel_rfl) ?_ | refine Kr_f (by kernel_rfl) ?_
    | (with_reducible refine Kr_t ?_; simp only [List.length_append, List.length_cons, List.length_nil, Nat.reduceAdd, Nat.reduceSub, List.drop_succ_cons, List.drop_zero])
    | with_reducible first | refine vR_nil ?_ | refine KtR_i (by kernel_rfl) ?_ | refine KrR_i (by kernel_rfl) ?_ | refine vR_skip (by decide) ?_
    | ((with_reducible refine vB_i ?_ ?_) <;> intro _ <;> (first | (exfalso; omega) | (exact absurd trivial ‹¬True›) | (try dsimp only [])))
    | ((with_reducible refine vOps_nil' ?_); refine Kr_i (by kernel_rfl) ?_; generalize hk : plain _ _ = G; simp only [lv, E3, E2, E5, rawX, deadX, SB, List.not_mem_nil, ↓reduceIte, ne_eq, reduceCtorEq, Nat.reduceLT, Nat.reduceEqDiff, Nat.reduceAdd, Nat.reduceMul, Nat.reduceLeDiff, Nat.reduceDiv, Nat.reduceMod, Nat.reduceSub, Nat.reduceBEq, List.length_cons, List.length_nil, List.map_cons, List.map_nil, List.getD_cons_zero, List.getD_cons_succ] at hk; subst hk)
    | with_reducible refine vSeq_i ?_
    | with_reducible first | refine vRegion_i (by kernel_rfl) ?_ | refine Kv_i ?_
    | ((with_reducible apply vStrK_i); (focus (rfl; done)))
    | ((with_reducible refine imp_i ?_); intro _)
    | with_reducible first | refine Ks_n ?_ | refine Ks_r ?_ | refine Ks_e ?_ | refine Kl_e ?_ | refine Kx_n ?_ | refine Kl_r ?_ | refine vRet_i ?_ | refine vSkip_i ?_ | refine vExit_i ?_ | refine vBlock_i ?_ | refine Ks_p ?_ | refine Kl_p ?_ | refine blk_p ?_ | exact Kb_p | refine vGoto_i ?_ | refine vLabel_i ?_ | refine Ks_g ?_ | refine Kl_g ?_ | refine blk_g ?_ | refine jmp_g ?_ | refine jmp_n ?_ | refine jmp_r ?_ | refine nog_n ?_ | refine nog_r ?_ | refine blk_n ?_ | refine blk_r ?_ | refine blk_e ?_ | refine blk_o (by decide) ?_ | refine cp_t ?_ | refine cp_f ?_
    | ((with_reducible apply vCond_x); (focus (simp only [lv, E1, E2, E5, ET, T, orc_mv, noO_mv, mvB, orc_bx, noO_bx, bxB, orc_sx, noO_sx, sxB, fwd, fwds, inv, mOk, Int.toNat_natCast, Nat.div_one, Nat.mul_one, Int.reduceToNat, SB, List.not_mem_nil, ↓reduceIte, ne_eq, reduceCtorEq, Nat.reduceLT, Nat.reduceEqDiff, Nat.reduceAdd, Nat.reduceMul, Nat.reduceLeDiff, Nat.reduceDiv, Nat.reduceMod, Nat.reduceSub, Nat.reduceBEq, List.length_cons, List.length_nil, List.map_cons, List.map_nil, List.getD_cons_zero, List.getD_cons_succ]; with_reducible first | exact Eq.refl (bo true) | exact Eq.refl (bo false))))
    | ((with_reducible refine And.intro ?_ ?_); (focus (try omega)))
  all_goals try (exfalso; omega)
  refine Kf_r ?_
  simp only [Tryd.f40, E4, E3, E2, E5, rawX, deadX, ET, T, SB, List.not_mem_nil, ↓reduceIte, ne_eq, reduceCtorEq, Nat.reduceLT, Nat.reduceEqDiff, Nat.reduceAdd, Nat.reduceMul, Nat.reduceLeDiff, Nat.reduceDiv, Nat.reduceMod, Nat.reduceSub, Nat.reduceBEq, List.length_cons, List.length_nil, List.map_cons, List.map_nil, List.getD_cons_zero, List.getD_cons_succ, erX]
set_option maxRecDepth 10000 in
set_option maxHeartbeats 4000000 in
theorem first_b (b : Int) (hb : b ≠ 0) : CallOk Tryd.prog 40 [sl [.raw (.int .i64 0), .raw (.int .i64 b)]] (erX b) [] false := by
  refine fn_ok' T_ok (orc_ok _) mixed Tryd.func40 rfl (by kernel_rfl) (lv [[0], [5, 6, 7], [5, 6, 7, 8], [4, 5, 6, 7], [4, 5, 6, 7, 12], [2], [5, 6, 7], [2]]) 18 rfl (by simp) rfl (by simp) ?_
  simp only [argsG, Nat.zero_add, Nat.reduceAdd]
  repeat' first
    | ((first
        | ((with_reducible refine vR_cons (by decide) ?_); generalize hk : KtR _ _ _ _ _ _ _ _ _ _ = k)
        | ((first
        | with_reducible refine vOps_cons' ?_) <;> generalize hk : Kt _ _ _ _ _ _ _ _ _ = k)) <;> (simp only [Tryd.f40, lv, E1, E2, E5, ET, T, orc_mv, noO_mv, mvB, orc_bx, noO_bx, bxB, orc_sx, noO_sx, sxB, fwd, fwds, inv, mOk, Int.toNat_natCast, Nat.div_one, Nat.mul_one, Int.reduceToNat, SB, List.not_mem_nil, ↓reduceIte, ne_eq, reduceCtorEq, Nat.reduceLT, Nat.reduceEqDiff, Nat.reduceAdd, Nat.reduceMul, Nat.reduceLeDiff, Nat.reduceDiv, Nat.reduceMod, Nat.reduceSub, Nat.reduceBEq, List.length_cons, List.length_nil, List.map_cons, List.map_nil, List.getD_cons_zero, List.getD_cons_succ]; (try simp (disch := omega) only [wrap_in, Int.toNat_natCast]); subst hk))
    | with_reducible first | refine Kt_p ?_ | refine Kt_i (by kernel_rfl) ?_ | refine Kr_f (by kernel_rfl) ?_
    | (with_reducible refine Kr_t ?_; simp only [List.length_append, List.length_cons, List.length_nil, Nat.reduceAdd, Nat.reduceSub, List.drop_succ_cons, List.drop_zero])
    | with_reducible first | refine vR_nil ?_ | refine KtR_i (by kernel_rfl) ?_ | refine KrR_i (by kernel_rfl) ?_ | refine vR_skip (by decide) ?_
    | ((with_reducible refine vB_i ?_ ?_) <;> intro _ <;> (first | (exfalso; omega) | (exact absurd trivial ‹¬True›) | (try dsimp only [])))
    | ((with_reducible refine vOps_nil' ?_); refine Kr_i (by kernel_rfl) ?_; generalize hk : plain _ _ = G; simp only [lv, E3, E2, E5, rawX, deadX, SB, List.not_mem_nil, ↓reduceIte, ne_eq, reduceCtorEq, Nat.reduceLT, Nat.reduceEqDiff, Nat.reduceAdd, Nat.reduceMul, Nat.reduceLeDiff, Nat.reduceDiv, Nat.reduceMod, Nat.reduceSub, Nat.reduceBEq, List.length_cons, List.length_nil, List.map_cons, List.map_nil, List.getD_cons_zero, List.getD_cons_succ] at hk; subst hk)
    | with_reducible refine vSeq_i ?_
    | with_reducible first | refine vRegion_i (by kernel_rfl) ?_ | refine Kv_i ?_
    | ((with_reducible apply vStrK_i); (focus (rfl; done)))
    | ((with_reducible refine imp_i ?_); intro _)
    | with_reducible first | refine Ks_n ?_ | refine Ks_r ?_ | refine Ks_e ?_ | refine Kl_e ?_ | refine Kx_n ?_ | refine Kl_r ?_ | refine vRet_i ?_ | refine vSkip_i ?_ | refine vExit_i ?_ | refine vBlock_i ?_ | refine Ks_p ?_ | refine Kl_p ?_ | refine blk_p ?_ | exact Kb_p | refine vGoto_i ?_ | refine vLabel_i ?_ | refine Ks_g ?_ | refine Kl_g ?_ | refine blk_g ?_ | refine jmp_g ?_ | refine jmp_n ?_ | refine jmp_r ?_ | refine nog_n ?_ | refine nog_r ?_ | refine blk_n ?_ | refine blk_r ?_ | refine blk_e ?_ | refine blk_o (by decide) ?_ | refine cp_t ?_ | refine cp_f ?_
    | ((with_reducible apply vCond_x); (focus (simp only [lv, E1, E2, E5, ET, T, orc_mv, noO_mv, mvB, orc_bx, noO_bx, bxB, orc_sx, noO_sx, sxB, fwd, fwds, inv, mOk, Int.toNat_natCast, Nat.div_one, Nat.mul_one, Int.reduceToNat, SB, List.not_mem_nil, ↓reduceIte, ne_eq, reduceCtorEq, Nat.reduceLT, Nat.reduceEqDiff, Nat.reduceAdd, Nat.reduceMul, Nat.reduceLeDiff, Nat.reduceDiv, Nat.reduceMod, Nat.reduceSub, Nat.reduceBEq, List.length_cons, List.length_nil, List.map_cons, List.map_nil, List.getD_cons_zero, List.getD_cons_succ]; with_reducible first | exact Eq.refl (bo true) | exact Eq.refl (bo false))))
    | ((with_reducible refine And.intro ?_ ?_); (focus (try omega)))
  refine vLoop_s (fun k : Nat => [(.t 5, .t (sl [.raw (.int .i64 0), .raw (.int .i64 b)])), (.t 6, .t (i64 2)), (.t 7, .t (i64 k))]) (fun k => k ≤ 1) (fun k => 2 - k) 0 (by omega) rfl ?_
  rintro k hk
  obtain rfl | rfl : k = 0 ∨ k = 1 := by omega
  all_goals
    repeat' first
      | ((first
          | ((with_reducible refine vR_cons (by decide) ?_); generalize hk : KtR _ _ _ _ _ _ _ _ _ _ = k)
          | ((first
          | with_reducible refine vOps_cons' ?_) <;> generalize hk : Kt _ _ _ _ _ _ _ _ _ = k)) <;> (simp only [Tryd.f40, lv, E1, E2, E5, ET, T, orc_mv, noO_mv, mvB, orc_bx, noO_bx, bxB, orc_sx, noO_sx, sxB, fwd, fwds, inv, mOk, Int.toNat_natCast, Nat.div_one, Nat.mul_one, Int.reduceToNat, SB, List.not_mem_nil, ↓reduceIte, ne_eq, reduceCtorEq, Nat.reduceLT, Nat.reduceEqDiff, Nat.reduceAdd, Nat.reduceMul, Nat.reduceLeDiff, Nat.reduceDiv, Nat.reduceMod, Nat.reduceSub, Nat.reduceBEq, List.length_cons, List.length_nil, List.map_cons, List.map_nil, List.getD_cons_zero, List.getD_cons_succ]; (try simp (disch := omega) only [wrap_in, Int.toNat_natCast]); subst hk))
      | with_reducible first | refine Kt_p ?_ | refine Kt_i (by kernel_rfl) ?_ | refine Kr_f (by kernel_rfl) ?_
      | (with_reducible refine Kr_t ?_; simp only [List.length_append, List.length_cons, List.length_nil, Nat.reduceAdd, Nat.reduceSub, List.drop_succ_cons, List.drop_zero])
      | with_reducible first | refine vR_nil ?_ | refine KtR_i (by kernel_rfl) ?_ | refine KrR_i (by kernel_rfl) ?_ | refine vR_skip (by decide) ?_
      | ((with_reducible refine vB_i ?_ ?_) <;> intro _ <;> (first | (exfalso; omega) | (exact absurd trivial ‹¬True›) | (try dsimp only [])))
      | ((with_reducible refine vOps_nil' ?_); refine Kr_i (by kernel_rfl) ?_; generalize hk : plain _ _ = G; simp only [lv, E3, E2, E5, rawX, deadX, SB, List.not_mem_nil, ↓reduceIte, ne_eq, reduceCtorEq, Nat.reduceLT, Nat.reduceEqDiff, Nat.reduceAdd, Nat.reduceMul, Nat.reduceLeDiff, Nat.reduceDiv, Nat.reduceMod, Nat.reduceSub, Nat.reduceBEq, List.length_cons, List.length_nil, List.map_cons, List.map_nil, List.getD_cons_zero, List.getD_cons_succ] at hk; subst hk)
      | with_reducible refine vSeq_i ?_
      | with_reducible first | refine vRegion_i (by kernel_rfl) ?_ | refine Kv_i ?_
      | ((with_reducible apply vStrK_i); (focus (rfl; done)))
      | ((with_reducible refine imp_i ?_); intro _)
      | with_reducible first | refine Ks_n ?_ | refine Ks_r ?_ | refine Ks_e ?_ | refine Kl_e ?_ | refine Kx_n ?_ | refine Kl_r ?_ | refine vRet_i ?_ | refine vSkip_i ?_ | refine vExit_i ?_ | refine vBlock_i ?_ | refine Ks_p ?_ | refine Kl_p ?_ | refine blk_p ?_ | exact Kb_p | refine vGoto_i ?_ | refine vLabel_i ?_ | refine Ks_g ?_ | refine Kl_g ?_ | refine blk_g ?_ | refine jmp_g ?_ | refine jmp_n ?_ | refine jmp_r ?_ | refine nog_n ?_ | refine nog_r ?_ | refine blk_n ?_ | refine blk_r ?_ | refine blk_e ?_ | refine blk_o (by decide) ?_ | refine cp_t ?_ | refine cp_f ?_
      | ((with_reducible apply vCond_x); (focus (simp only [lv, E1, E2, E5, ET, T, orc_mv, noO_mv, mvB, orc_bx, noO_bx, bxB, orc_sx, noO_sx, sxB, fwd, fwds, inv, mOk, Int.toNat_natCast, Nat.div_one, Nat.mul_one, Int.reduceToNat, SB, List.not_mem_nil, ↓reduceIte, ne_eq, reduceCtorEq, Nat.reduceLT, Nat.reduceEqDiff, Nat.reduceAdd, Nat.reduceMul, Nat.reduceLeDiff, Nat.reduceDiv, Nat.reduceMod, Nat.reduceSub, Nat.reduceBEq, List.length_cons, List.length_nil, List.map_cons, List.map_nil, List.getD_cons_zero, List.getD_cons_succ]; with_reducible first | exact Eq.refl (bo true) | exact Eq.refl (bo false))))
      | ((with_reducible refine And.intro ?_ ?_); (focus (try omega)))
    all_goals try (exfalso; omega)
  · exact Kl_n ⟨1, by omega, by omega, rfl⟩
  · refine Kf_r ?_
    simp only [Tryd.f40, E4, E3, E2, E5, rawX, deadX, ET, T, SB, List.not_mem_nil, ↓reduceIte, ne_eq, reduceCtorEq, Nat.reduceLT, Nat.reduceEqDiff, Nat.reduceAdd, Nat.reduceMul, Nat.reduceLeDiff, Nat.reduceDiv, Nat.reduceMod, Nat.reduceSub, Nat.reduceBEq, List.length_cons, List.length_nil, List.map_cons, List.map_nil, List.getD_cons_zero, List.getD_cons_succ, erX]
def cntF (n : Int) : Int := if n < 0 ∨ n ≥ 2147483647 then 190 else 0
set_option maxRecDepth 10000 in
set_option maxHeartbeats 4000000 in
theorem count_ok (n : Int) : CallOk Tryd.prog 41 [i64 n] (i64 (cntF n)) [] true := by
  refine fn_ok' T_ok (orc_ok _) mixed Tryd.func41 rfl (by kernel_rfl) (lv [[0], [8], [2], [2]]) 9 rfl (by simp) rfl (by simp [X.all, PX.all, TV.rawR, SV.isRaw]) ?_
  simp only [argsG, Nat.zero_add, Nat.reduceAdd]
  repeat' first
    | ((first
        | ((with_reducible refine vR_cons (by decide) ?_); generalize hk : KtR _ _ _ _ _ _ _ _ _ _ = k)
        | ((first
        | with_reducible refine vOps_cons' ?_) <;> generalize hk : Kt _ _ _ _ _ _ _ _ _ = k)) <;> (simp only [Tryd.f41, lv, E1, E2, E5, ET, T, orc_mv, noO_mv, mvB, orc_bx, noO_bx, bxB, orc_sx, noO_sx, sxB, fwd, fwds, inv, mOk, Int.toNat_natCast, Nat.div_one, Nat.mul_one, Int.reduceToNat, SB, List.not_mem_nil, ↓reduceIte, ne_eq, reduceCtorEq, Nat.reduceLT, Nat.reduceEqDiff, Nat.reduceAdd, Nat.reduceMul, Nat.reduceLeDiff, Nat.reduceDiv, Nat.reduceMod, Nat.reduceSub, Nat.reduceBEq, List.length_cons, List.length_nil, List.map_cons, List.map_nil, List.getD_cons_zero, List.getD_cons_succ]; (try simp (disch := omega) only [wrap_in, Int.toNat_natCast]); subst hk))
    | with_reducible first | refine Kt_p ?_ | refine Kt_i (by kernel_rfl) ?_ | refine Kr_f (by kernel_rfl) ?_
    | (with_reducible refine Kr_t ?_; simp only [List.length_append, List.length_cons, List.length_nil, Nat.reduceAdd, Nat.reduceSub, List.drop_succ_cons, List.drop_zero])
    | with_reducible first | refine vR_nil ?_ | refine KtR_i (by kernel_rfl) ?_ | refine KrR_i (by kernel_rfl) ?_ | refine vR_skip (by decide) ?_
    | ((with_reducible refine vB_i ?_ ?_) <;> intro _ <;> (first | (exfalso; omega) | (exact absurd trivial ‹¬True›) | (try dsimp only [])))
    | ((with_reducible refine vOps_nil' ?_); refine Kr_i (by kernel_rfl) ?_; generalize hk : plain _ _ = G; simp only [lv, E3, E2, E5, rawX, deadX, SB, List.not_mem_nil, ↓reduceIte, ne_eq, reduceCtorEq, Nat.reduceLT, Nat.reduceEqDiff, Nat.reduceAdd, Nat.reduceMul, Nat.reduceLeDiff, Nat.reduceDiv, Nat.reduceMod, Nat.reduceSub, Nat.reduceBEq, List.length_cons, List.length_nil, List.map_cons, List.map_nil, List.getD_cons_zero, List.getD_cons_succ] at hk; subst hk)
    | with_reducible refine vSeq_i ?_
    | with_reducible first | refine vRegion_i (by kernel_rfl) ?_ | refine Kv_i ?_
    | ((with_reducible apply vStrK_i); (focus (rfl; done)))
    | ((with_reducible refine imp_i ?_); intro _)
    | with_reducible first | refine Ks_n ?_ | refine Ks_r ?_ | refine Ks_e ?_ | refine Kl_e ?_ | refine Kx_n ?_ | refine Kl_r ?_ | refine vRet_i ?_ | refine vSkip_i ?_ | refine vExit_i ?_ | refine vBlock_i ?_ | refine Ks_p ?_ | refine Kl_p ?_ | refine blk_p ?_ | exact Kb_p | refine vGoto_i ?_ | refine vLabel_i ?_ | refine Ks_g ?_ | refine Kl_g ?_ | refine blk_g ?_ | refine jmp_g ?_ | refine jmp_n ?_ | refine jmp_r ?_ | refine nog_n ?_ | refine nog_r ?_ | refine blk_n ?_ | refine blk_r ?_ | refine blk_e ?_ | refine blk_o (by decide) ?_ | refine cp_t ?_ | refine cp_f ?_
    | ((with_reducible apply vCond_x); (focus (simp only [lv, E1, E2, E5, ET, T, orc_mv, noO_mv, mvB, orc_bx, noO_bx, bxB, orc_sx, noO_sx, sxB, fwd, fwds, inv, mOk, Int.toNat_natCast, Nat.div_one, Nat.mul_one, Int.reduceToNat, SB, List.not_mem_nil, ↓reduceIte, ne_eq, reduceCtorEq, Nat.reduceLT, Nat.reduceEqDiff, Nat.reduceAdd, Nat.reduceMul, Nat.reduceLeDiff, Nat.reduceDiv, Nat.reduceMod, Nat.reduceSub, Nat.reduceBEq, List.length_cons, List.length_nil, List.map_cons, List.map_nil, List.getD_cons_zero, List.getD_cons_succ]; with_reducible first | exact Eq.refl (bo true) | exact Eq.refl (bo false))))
    | ((with_reducible refine And.intro ?_ ?_); (focus (try omega)))
  all_goals refine Kf_r ?_
  all_goals simp only [Tryd.f41, E4, E3, E2, E5, rawX, deadX, ET, T, SB, List.not_mem_nil, ↓reduceIte, ne_eq, reduceCtorEq, Nat.reduceLT, Nat.reduceEqDiff, Nat.reduceAdd, Nat.reduceMul, Nat.reduceLeDiff, Nat.reduceDiv, Nat.reduceMod, Nat.reduceSub, Nat.reduceBEq, List.length_cons, List.length_nil, List.map_cons, List.map_nil, List.getD_cons_zero, List.getD_cons_succ, cntF]
  · rename_i h; rw [if_pos (.inl h)]
  · rename_i h h'; rw [if_pos (.inr h')]
  · rename_i h h'; rw [if_neg (fun q => q.elim h h')]
end Go.Proofs.YtdpflafjfkooeaaDoorG
namespace Go.Proofs.YtdpflafjfkooeaaDoorG
open Go Go.RowKit Go.Proofs
set_option linter.unusedSimpArgs false
set_option linter.unusedVariables false
def noSt : St := ⟨[], [], []⟩
def o120 : Opn := ⟨1, 0, 0, [120]⟩
def sN120 : St := ⟨[120], [⟨0, [], [120]⟩], []⟩
def zz : List SV := [.raw (.int .i64 0), .raw (.int .i64 0)]
theorem zz_len : zz.length = 2 := rfl
theorem tv_zz {k : Nat} (h : k < 2) : (List.map TV.v zz).getD k .dead = .v (.raw (.int .i64 0)) := by
  match k, h with
  | 0, _ => rfl
  | 1, _ => rfl
set_option maxRecDepth 10000 in
set_option maxHeartbeats 4000000 in
theorem first_ok : CallOk Tryd.prog 40 [sl zz] (.p (.one (.v (.raw .nilIface)))) [] true := by
  refine fn_ok' T_ok (orc_ok _) mixed Tryd.func40 rfl (by kernel_rfl) (lv [[0], [5, 6, 7], [5, 6, 7, 8], [4, 5, 6, 7], [4, 5, 6, 7, 12], [2], [5, 6, 7], [2]]) 18 rfl (by simp) rfl (by simp [X.all, PX.all, TV.rawR, SV.isRaw]) ?_
  simp only [argsG, Nat.zero_add, Nat.reduceAdd]
  repeat' first
    | ((first
        | ((with_reducible refine vR_cons (by decide) ?_); generalize hk : KtR _ _ _ _ _ _ _ _ _ _ = k)
        | ((first
        | with_reducible refine vOps_cons' ?_) <;> generalize hk : Kt _ _ _ _ _ _ _ _ _ = k)) <;> (simp only [Tryd.f40, lv, E1, E2, E5, ET, T, orc_mv, noO_mv, mvB, orc_bx, noO_bx, bxB, orc_sx, noO_sx, sxB, fwd, fwds, inv, mOk, Int.toNat_natCast, Nat.div_one, Nat.mul_one, Int.reduceToNat, SB, List.not_mem_nil, ↓reduceIte, ne_eq, reduceCtorEq, Nat.reduceLT, Nat.reduceEqDiff, Nat.reduceAdd, Nat.reduceMul, Nat.reduceLeDiff, Nat.reduceDiv, Nat.reduceMod, Nat.reduceSub, Nat.reduceBEq, zz_len, List.length_map, rn_len, Opn.x, St.x, St.rx, List.length_cons, List.length_nil, noSt, o120, sN120]; (try simp (disch := omega) only [wrap_in, Int.toNat_natCast, tv_rn, tv_zz]); subst hk))
    | with_reducible first | refine Kt_p ?_ | refine Kt_i (by kernel_rfl) ?_ | refine Kr_f (by kernel_rfl) ?_
    | (with_reducible refine Kr_t ?_; simp only [List.length_append, List.length_cons, List.length_nil, Nat.reduceAdd, Nat.reduceSub, List.drop_succ_cons, List.drop_zero])
    | with_reducible first | refine vR_nil ?_ | refine KtR_i (by kernel_rfl) ?_ | refine KrR_i (by kernel_rfl) ?_ | refine vR_skip (by decide) ?_
    | ((with_reducible refine vB_i ?_ ?_) <;> intro _ <;> (first | (exfalso; omega) | (exact absurd trivial ‹¬True›) | (try dsimp only [])))
    | ((with_reducible refine vOps_nil' ?_); refine Kr_i (by kernel_rfl) ?_; generalize hk : plain _ _ = G; simp only [lv, E3, E2, E5, rawX, deadX, SB, List.not_mem_nil, ↓reduceIte, ne_eq, reduceCtorEq, Nat.reduceLT, Nat.reduceEqDiff, Nat.reduceAdd, Nat.reduceMul, Nat.reduceLeDiff, Nat.reduceDiv, Nat.reduceMod, Nat.reduceSub, Nat.reduceBEq, zz_len, List.length_map, rn_len, Opn.x, St.x, St.rx, List.length_cons, List.length_nil, noSt, o120, sN120] at hk; subst hk)
    | with_reducible refine vSeq_i ?_
    | with_reducible first | refine vRegion_i (by kernel_rfl) ?_ | refine Kv_i ?_
    | ((with_reducible apply vStrK_i); (focus (rfl; done)))
    | ((with_reducible refine imp_i ?_); intro _)
    | with_reducible first | refine Ks_n ?_ | refine Ks_r ?_ | refine Ks_e ?_ | refine Kl_e ?_ | refine Kx_n ?_ | refine Kl_r ?_ | refine vRet_i ?_ | refine vSkip_i ?_ | refine vExit_i ?_ | refine vBlock_i ?_ | refine Ks_p ?_ | refine Kl_p ?_ | refine blk_p ?_ | exact Kb_p | refine vGoto_i ?_ | refine vLabel_i ?_ | refine Ks_g ?_ | refine Kl_g ?_ | refine blk_g ?_ | refine jmp_g ?_ | refine jmp_n ?_ | refine jmp_r ?_ | refine nog_n ?_ | refine nog_r ?_ | refine blk_n ?_ | refine blk_r ?_ | refine blk_e ?_ | refine blk_o (by decide) ?_ | refine cp_t ?_ | refine cp_f ?_
    | ((with_reducible apply vCond_x); (focus (simp only [lv, E1, E2, E5, ET, T, orc_mv, noO_mv, mvB, orc_bx, noO_bx, bxB, orc_sx, noO_sx, sxB, fwd, fwds, inv, mOk, Int.toNat_natCast, Nat.div_one, Nat.mul_one, Int.reduceToNat, SB, List.not_mem_nil, ↓reduceIte, ne_eq, reduceCtorEq, Nat.reduceLT, Nat.reduceEqDiff, Nat.reduceAdd, Nat.reduceMul, Nat.reduceLeDiff, Nat.reduceDiv, Nat.reduceMod, Nat.reduceSub, Nat.reduceBEq, zz_len, List.length_map, rn_len, Opn.x, St.x, St.rx, List.length_cons, List.length_nil, noSt, o120, sN120]; with_reducible first | exact Eq.refl (bo true) | exact Eq.refl (bo false))))
    | ((with_reducible refine And.intro ?_ ?_); (focus (try omega)))
  refine vLoop_s (fun k : Nat => [(.t 5, .t (sl zz)), (.t 6, .t (i64 2)), (.t 7, .t (i64 k))]) (fun k => k ≤ 2) (fun k => 2 - k) 0 (by omega) rfl ?_
  intro k hk
  repeat' first
    | ((first
        | ((with_reducible refine vR_cons (by decide) ?_); generalize hk : KtR _ _ _ _ _ _ _ _ _ _ = k)
        | ((first
        | with_reducible refine vOps_cons' ?_) <;> generalize hk : Kt _ _ _ _ _ _ _ _ _ = k)) <;> (simp only [Tryd.f40, lv, E1, E2, E5, ET, T, orc_mv, noO_mv, mvB, orc_bx, noO_bx, bxB, orc_sx, noO_sx, sxB, fwd, fwds, inv, mOk, Int.toNat_natCast, Nat.div_one, Nat.mul_one, Int.reduceToNat, SB, List.not_mem_nil, ↓reduceIte, ne_eq, reduceCtorEq, Nat.reduceLT, Nat.reduceEqDiff, Nat.reduceAdd, Nat.reduceMul, Nat.reduceLeDiff, Nat.reduceDiv, Nat.reduceMod, Nat.reduceSub, Nat.reduceBEq, zz_len, List.length_map, rn_len, Opn.x, St.x, St.rx, List.length_cons, List.length_nil, noSt, o120, sN120]; (try simp (disch := omega) only [wrap_in, Int.toNat_natCast, tv_rn, tv_zz]); subst hk))
    | with_reducible first | refine Kt_p ?_ | refine Kt_i (by kernel_rfl) ?_ | refine Kr_f (by kernel_rfl) ?_
    | (with_reducible refine Kr_t ?_; simp only [List.length_append, List.length_cons, List.length_nil, Nat.reduceAdd, Nat.reduceSub, List.drop_succ_cons, List.drop_zero])
    | with_reducible first | refine vR_nil ?_ | refine KtR_i (by kernel_rfl) ?_ | refine KrR_i (by kernel_rfl) ?_ | refine vR_skip (by decide) ?_
    | ((with_reducible refine vB_i ?_ ?_) <;> intro _ <;> (first | (exfalso; omega) | (exact absurd trivial ‹¬True›) | (try dsimp only [])))
    | ((with_reducible refine vOps_nil' ?_); refine Kr_i (by kernel_rfl) ?_; generalize hk : plain _ _ = G; simp only [lv, E3, E2, E5, rawX, deadX, SB, List.not_mem_nil, ↓reduceIte, ne_eq, reduceCtorEq, Nat.reduceLT, Nat.reduceEqDiff, Nat.reduceAdd, Nat.reduceMul, Nat.reduceLeDiff, Nat.reduceDiv, Nat.reduceMod, Nat.reduceSub, Nat.reduceBEq, zz_len, List.length_map, rn_len, Opn.x, St.x, St.rx, List.length_cons, List.length_nil, noSt, o120, sN120] at hk; subst hk)
    | with_reducible refine vSeq_i ?_
    | with_reducible first | refine vRegion_i (by kernel_rfl) ?_ | refine Kv_i ?_
    | ((with_reducible apply vStrK_i); (focus (rfl; done)))
    | ((with_reducible refine imp_i ?_); intro _)
    | with_reducible first | refine Ks_n ?_ | refine Ks_r ?_ | refine Ks_e ?_ | refine Kl_e ?_ | refine Kx_n ?_ | refine Kl_r ?_ | refine vRet_i ?_ | refine vSkip_i ?_ | refine vExit_i ?_ | refine vBlock_i ?_ | refine Ks_p ?_ | refine Kl_p ?_ | refine blk_p ?_ | exact Kb_p | refine vGoto_i ?_ | refine vLabel_i ?_ | refine Ks_g ?_ | refine Kl_g ?_ | refine blk_g ?_ | refine jmp_g ?_ | refine jmp_n ?_ | refine jmp_r ?_ | refine nog_n ?_ | refine nog_r ?_ | refine blk_n ?_ | refine blk_r ?_ | refine blk_e ?_ | refine blk_o (by decide) ?_ | refine cp_t ?_ | refine cp_f ?_
    | ((with_reducible apply vCond_x); (focus (simp only [lv, E1, E2, E5, ET, T, orc_mv, noO_mv, mvB, orc_bx, noO_bx, bxB, orc_sx, noO_sx, sxB, fwd, fwds, inv, mOk, Int.toNat_natCast, Nat.div_one, Nat.mul_one, Int.reduceToNat, SB, List.not_mem_nil, ↓reduceIte, ne_eq, reduceCtorEq, Nat.reduceLT, Nat.reduceEqDiff, Nat.reduceAdd, Nat.reduceMul, Nat.reduceLeDiff, Nat.reduceDiv, Nat.reduceMod, Nat.reduceSub, Nat.reduceBEq, zz_len, List.length_map, rn_len, Opn.x, St.x, St.rx, List.length_cons, List.length_nil, noSt, o120, sN120]; with_reducible first | exact Eq.refl (bo true) | exact Eq.refl (bo false))))
    | ((with_reducible refine And.intro ?_ ?_); (focus (try omega)))
  · exact Kl_n ⟨k + 1, by omega, by omega, by simp only [Int.natCast_add, Int.natCast_one]⟩
  · refine Kf_r ?_
    simp only [Tryd.f40, E4, E3, E2, E5, rawX, deadX, ET, T, SB, List.not_mem_nil, ↓reduceIte, ne_eq, reduceCtorEq, Nat.reduceLT, Nat.reduceEqDiff, Nat.reduceAdd, Nat.reduceMul, Nat.reduceLeDiff, Nat.reduceDiv, Nat.reduceMod, Nat.reduceSub, Nat.reduceBEq, zz_len, List.length_map, rn_len, Opn.x, St.x, St.rx, List.length_cons, List.length_nil, noSt, o120, sN120]
theorem okN : noSt.ok := ⟨by simp [noSt], by intro m hm; simp [noSt] at hm, by intro m hm; simp [noSt] at hm, by intro m hm; simp [noSt] at hm, by simp [noSt], by simp [noSt]⟩
theorem r120 : R32s [120] := by intro m hm; simp at hm; subst hm; exact ⟨by omega, by omega⟩
theorem ok120 : sN120.ok := ⟨by simp [sN120], r120, by intro m hm; simp [sN120] at hm; subst hm; exact ⟨by simp, by simp, by intro m hm; simp at hm, r120⟩, by intro m hm; simp [sN120] at hm, by simp [sN120], by simp [sN120]⟩
theorem oo120 : o120.ok := ⟨by simp [o120], r120⟩
theorem app120 : appF noSt o120 = (sN120, 0) := by decide
theorem op120 : opC o120 = 20 ∧ (opF o120).2 = 0 := by decide
theorem stN : stC noSt = 10 ∧ (stF 0 noSt).2 = 0 := by decide
theorem st120 : stC sN120 = 24 ∧ (stF 0 sN120).2 = 0 := by decide
theorem sec442 : secF 4 4 2 = (16, 0) := by decide
set_option maxRecDepth 10000 in
set_option maxHeartbeats 8000000 in
theorem nextN_ok : CallOk Tryd.prog 22 [geo 4 4 2, .p (.agg [.v (.sl 1 []), .v (.sl 3 []), .v (.sl 3 []), .v (.raw (.int .i64 0)), .v (.raw (.int .i64 0))]), o120.x]
    (.tup [.agg [.v (.sl 1 (rn [120])), .v (.sl 3 (chs sN120.undo)), .v (.sl 3 []), .v (.raw (.int .i64 1)), .v (.raw (.int .i64 20))], .one (.v (.raw (.int .i64 0)))]) [] false := by
  have q1 : CallOk Tryd.prog 11 [geo 4 4 2] (.tup [.one (.v (.raw (.int .i64 256))), .one (.v (.raw (.int .i64 216))), .one (.v (.raw (.int .i64 0)))]) [] true := by
    have h := rooms_ok 4 4 2; rw [sec442] at h; exact h
  have q2 : CallOk Tryd.prog 17 [noSt.x, o120.x] (sN120.rx 0) [] false := by
    have h := apply_ok goes_ok noSt o120 okN oo120; rw [app120] at h; exact h
  have q3 : CallOk Tryd.prog 12 [o120.x] (.tup [.one (.v (.raw (.int .i64 20))), .one (.v (.raw (.int .i64 0)))]) [] true := by
    have h := costOp_ok o120 r120 (by simp [o120]); rw [op120.1, op120.2] at h; exact h
  have q4 : CallOk Tryd.prog 14 [sN120.x] (.tup [.one (.v (.raw (.int .i64 24))), .one (.v (.raw (.int .i64 0)))]) [] true := by
    have h := costState_ok sN120 ok120; rw [st120.1, st120.2] at h; exact h
  have q5 := counted_ok 0 (by omega) (by omega)
  have q6 : CallOk Tryd.prog 40 [sl [.raw (.int .i64 0), .raw (.int .i64 0)]] (.p (.one (.v (.raw .nilIface)))) [] true := first_ok
  refine fn_ok' T_ok (orc_ok _) mixed Tryd.func22 rfl (by kernel_rfl) (lv [[3, 4, 5, 6], [4, 5, 6, 8, 9, 10], [4, 5, 6, 8, 9, 10, 24], [6, 7], [4, 5, 6, 8, 9, 10, 11], [4, 5, 6, 8, 9, 10, 11, 35], [6, 7], [4, 6, 8, 9, 10, 11, 12], [4, 6, 8, 9, 11, 12, 13], [4, 6, 8, 9, 11, 12, 13, 50], [6, 7], [4, 6, 8, 9, 10, 11, 12, 14], [4, 6, 8, 10, 11, 12, 65], [4, 6, 8, 10, 11, 12], [4, 6, 8, 10, 11, 12, 15], [4, 6, 10, 11, 12, 15, 76], [4, 6, 10, 11, 12, 15], [4, 6, 11, 12, 16], [4, 6, 11, 12, 16, 82], [6, 7], [6, 7]]) 95 rfl (by simp) rfl (by simp) ?_
  simp only [argsG, Nat.zero_add, Nat.reduceAdd, Opn.x, St.x, St.rx, noSt, o120, sN120] at *
  repeat' first
    | ((first
        | ((with_reducible refine vR_cons (by decide) ?_); generalize hk : KtR _ _ _ _ _ _ _ _ _ _ = k)
        | ((first
        | with_reducible refine vOps_cons' ?_
        | ((with_reducible apply orc_i); (focus (exact q1; done)))
        | ((with_reducible apply orc_i); (focus (exact q2; done)))
        | ((with_reducible apply orc_i); (focus (exact q3; done)))
        | ((with_reducible apply orc_i); (focus (exact q4; done)))
        | ((with_reducible apply orc_i); (focus (exact q5; done)))
        | ((with_reducible apply orc_i); (focus (exact q6; done)))) <;> generalize hk : Kt _ _ _ _ _ _ _ _ _ = k)) <;> (simp only [Tryd.f22, lv, E1, E2, E5, ET, T, orc_mv, noO_mv, mvB, orc_bx, noO_bx, bxB, orc_sx, noO_sx, sxB, fwd, fwds, inv, mOk, Int.toNat_natCast, Nat.div_one, Nat.mul_one, Int.reduceToNat, SB, List.not_mem_nil, ↓reduceIte, ne_eq, reduceCtorEq, Nat.reduceLT, Nat.reduceEqDiff, Nat.reduceAdd, Nat.reduceMul, Nat.reduceLeDiff, Nat.reduceDiv, Nat.reduceMod, Nat.reduceSub, Nat.reduceBEq, zz_len, List.length_map, rn_len, Opn.x, St.x, St.rx, List.length_cons, List.length_nil, noSt, o120, sN120]; (try simp (disch := omega) only [wrap_in, Int.toNat_natCast, tv_rn, tv_zz]); subst hk))
    | with_reducible first | refine Kt_p ?_ | refine Kt_i (by kernel_rfl) ?_ | refine Kr_f (by kernel_rfl) ?_
    | (with_reducible refine Kr_t ?_; simp only [List.length_append, List.length_cons, List.length_nil, Nat.reduceAdd, Nat.reduceSub, List.drop_succ_cons, List.drop_zero])
    | with_reducible first | refine vR_nil ?_ | refine KtR_i (by kernel_rfl) ?_ | refine KrR_i (by kernel_rfl) ?_ | refine vR_skip (by decide) ?_
    | ((with_reducible refine vB_i ?_ ?_) <;> intro _ <;> (first | (exfalso; omega) | (exact absurd trivial ‹¬True›) | (try dsimp only [])))
    | ((with_reducible refine vOps_nil' ?_); refine Kr_i (by kernel_rfl) ?_; generalize hk : plain _ _ = G; simp only [lv, E3, E2, E5, rawX, deadX, SB, List.not_mem_nil, ↓reduceIte, ne_eq, reduceCtorEq, Nat.reduceLT, Nat.reduceEqDiff, Nat.reduceAdd, Nat.reduceMul, Nat.reduceLeDiff, Nat.reduceDiv, Nat.reduceMod, Nat.reduceSub, Nat.reduceBEq, zz_len, List.length_map, rn_len, Opn.x, St.x, St.rx, List.length_cons, List.length_nil, noSt, o120, sN120] at hk; subst hk)
    | with_reducible refine vSeq_i ?_
    | with_reducible first | refine vRegion_i (by kernel_rfl) ?_ | refine Kv_i ?_
    | ((with_reducible apply vStrK_i); (focus (rfl; done)))
    | ((with_reducible refine imp_i ?_); intro _)
    | with_reducible first | refine Ks_n ?_ | refine Ks_r ?_ | refine Ks_e ?_ | refine Kl_e ?_ | refine Kx_n ?_ | refine Kl_r ?_ | refine vRet_i ?_ | refine vSkip_i ?_ | refine vExit_i ?_ | refine vBlock_i ?_ | refine Ks_p ?_ | refine Kl_p ?_ | refine blk_p ?_ | exact Kb_p | refine vGoto_i ?_ | refine vLabel_i ?_ | refine Ks_g ?_ | refine Kl_g ?_ | refine blk_g ?_ | refine jmp_g ?_ | refine jmp_n ?_ | refine jmp_r ?_ | refine nog_n ?_ | refine nog_r ?_ | refine blk_n ?_ | refine blk_r ?_ | refine blk_e ?_ | refine blk_o (by decide) ?_ | refine cp_t ?_ | refine cp_f ?_
    | ((with_reducible apply vCond_x); (focus (simp only [lv, E1, E2, E5, ET, T, orc_mv, noO_mv, mvB, orc_bx, noO_bx, bxB, orc_sx, noO_sx, sxB, fwd, fwds, inv, mOk, Int.toNat_natCast, Nat.div_one, Nat.mul_one, Int.reduceToNat, SB, List.not_mem_nil, ↓reduceIte, ne_eq, reduceCtorEq, Nat.reduceLT, Nat.reduceEqDiff, Nat.reduceAdd, Nat.reduceMul, Nat.reduceLeDiff, Nat.reduceDiv, Nat.reduceMod, Nat.reduceSub, Nat.reduceBEq, zz_len, List.length_map, rn_len, Opn.x, St.x, St.rx, List.length_cons, List.length_nil, noSt, o120, sN120]; with_reducible first | exact Eq.refl (bo true) | exact Eq.refl (bo false))))
    | ((with_reducible refine And.intro ?_ ?_); (focus (try omega)))
  refine Kf_r ?_
  simp only [Tryd.f22, E4, E3, E2, E5, rawX, deadX, ET, T, SB, List.not_mem_nil, ↓reduceIte, ne_eq, reduceCtorEq, Nat.reduceLT, Nat.reduceEqDiff, Nat.reduceAdd, Nat.reduceMul, Nat.reduceLeDiff, Nat.reduceDiv, Nat.reduceMod, Nat.reduceSub, Nat.reduceBEq, zz_len, List.length_map, rn_len, Opn.x, St.x, St.rx, List.length_cons, List.length_nil, noSt, o120, sN120]
  rfl
def x120 : X := .p (.agg [.v (.raw (.int .i64 1)), .v (.raw (.int .i64 0)), .v (.raw (.int .i64 0)), .v (.sl 1 [.raw (.int .i32 120)])])
set_option maxRecDepth 10000 in
set_option maxHeartbeats 16000000 in
theorem works24_ok : CallOk Tryd.prog 8 [] (bo true) [] true := by
  have q0 : CallOk Tryd.prog 9 [geo 4 4 2] (.tup [.one (.v (.raw (.int .i64 16))), .one (.v (.raw (.int .i64 0)))]) [] true := by
    have h := sectors_ok 4 4 2; rw [sec442] at h; exact h
  have q1 : CallOk Tryd.prog 11 [geo 4 4 2] (.tup [.one (.v (.raw (.int .i64 256))), .one (.v (.raw (.int .i64 216))), .one (.v (.raw (.int .i64 0)))]) [] true := by
    have h := rooms_ok 4 4 2; rw [sec442] at h; exact h
  have q3 : CallOk Tryd.prog 12 [x120] (.tup [.one (.v (.raw (.int .i64 20))), .one (.v (.raw (.int .i64 0)))]) [] true := by
    have h := costOp_ok o120 r120 (by simp [o120]); rw [op120.1, op120.2] at h; exact h
  have q4 : CallOk Tryd.prog 14 [.p (.agg [.v (.sl 1 []), .v (.sl 3 []), .v (.sl 3 [])])] (.tup [.one (.v (.raw (.int .i64 10))), .one (.v (.raw (.int .i64 0)))]) [] true := by
    have h := costState_ok noSt okN; rw [stN.1, stN.2] at h; exact h
  have q5 : CallOk Tryd.prog 22 [geo 4 4 2, .p (.agg [.v (.sl 1 []), .v (.sl 3 []), .v (.sl 3 []), .v (.raw (.int .i64 0)), .v (.raw (.int .i64 0))]), x120]
    (.tup [.agg [.v (.sl 1 (rn [120])), .v (.sl 3 (chs sN120.undo)), .v (.sl 3 []), .v (.raw (.int .i64 1)), .v (.raw (.int .i64 20))], .one (.v (.raw (.int .i64 0)))]) [] false := nextN_ok
  have q6 : CallOk Tryd.prog 23 [sl (rn [120]), sl [.raw (.int .i32 120)]] (bo true) [] true := same_ok [120] [120] (by simp) (by simp)
  refine fn_ok' T_ok (orc_ok _) mixed Tryd.func8 rfl (by kernel_rfl) (lv [[], [1], [1, 2, 3], [1, 2, 3, 4, 5, 6], [1, 2, 3, 4, 5, 6, 7, 8], [1, 2, 3, 4, 5, 6, 7, 8, 9, 10], [2, 3, 4, 5, 6, 7, 8, 9, 10, 11, 12], [0]]) 99 rfl (by simp) rfl (by simp [X.all, PX.all, TV.rawR, SV.isRaw]) ?_
  simp only [argsG, Nat.zero_add, Nat.reduceAdd, x120] at *
  repeat' first
    | ((first
        | ((with_reducible refine vR_cons (by decide) ?_); generalize hk : KtR _ _ _ _ _ _ _ _ _ _ = k)
        | ((first
        | with_reducible refine vOps_cons' ?_
        | ((with_reducible apply orc_i); (focus (exact q0; done)))
        | ((with_reducible apply orc_i); (focus (exact q1; done)))
        | ((with_reducible apply orc_i); (focus (exact q3; done)))
        | ((with_reducible apply orc_i); (focus (exact q4; done)))
        | ((with_reducible apply orc_i); (focus (exact q5; done)))
        | ((with_reducible apply orc_b); (focus (exact q6; done)); (all_goals (intro hb; (try simp only [decide_eq_true_eq, decide_eq_false_iff_not, Bool.not_eq_true', Bool.not_eq_false', Bool.and_eq_true, Decidable.not_not] at hb))))) <;> generalize hk : Kt _ _ _ _ _ _ _ _ _ = k)) <;> (simp only [Tryd.f8, lv, E1, E2, E5, ET, T, orc_mv, noO_mv, mvB, orc_bx, noO_bx, bxB, orc_sx, noO_sx, sxB, fwd, fwds, inv, mOk, Int.toNat_natCast, Nat.div_one, Nat.mul_one, Int.reduceToNat, SB, List.not_mem_nil, ↓reduceIte, ne_eq, reduceCtorEq, Nat.reduceLT, Nat.reduceEqDiff, Nat.reduceAdd, Nat.reduceMul, Nat.reduceLeDiff, Nat.reduceDiv, Nat.reduceMod, Nat.reduceSub, Nat.reduceBEq, zz_len, List.length_map, rn_len, Opn.x, St.x, St.rx, List.length_cons, List.length_nil, noSt, o120, sN120]; (try simp (disch := omega) only [wrap_in, Int.toNat_natCast, tv_rn, tv_zz]); subst hk))
    | with_reducible first | refine Kt_p ?_ | refine Kt_i (by kernel_rfl) ?_ | refine Kr_f (by kernel_rfl) ?_
    | (with_reducible refine Kr_t ?_; simp only [List.length_append, List.length_cons, List.length_nil, Nat.reduceAdd, Nat.reduceSub, List.drop_succ_cons, List.drop_zero])
    | with_reducible first | refine vR_nil ?_ | refine KtR_i (by kernel_rfl) ?_ | refine KrR_i (by kernel_rfl) ?_ | refine vR_skip (by decide) ?_
    | ((with_reducible refine vB_i ?_ ?_) <;> intro _ <;> (first | (exfalso; omega) | (exact absurd trivial ‹¬True›) | (try dsimp only [])))
    | ((with_reducible refine vOps_nil' ?_); refine Kr_i (by kernel_rfl) ?_; generalize hk : plain _ _ = G; simp only [lv, E3, E2, E5, rawX, deadX, SB, List.not_mem_nil, ↓reduceIte, ne_eq, reduceCtorEq, Nat.reduceLT, Nat.reduceEqDiff, Nat.reduceAdd, Nat.reduceMul, Nat.reduceLeDiff, Nat.reduceDiv, Nat.reduceMod, Nat.reduceSub, Nat.reduceBEq, zz_len, List.length_map, rn_len, Opn.x, St.x, St.rx, List.length_cons, List.length_nil, noSt, o120, sN120] at hk; subst hk)
    | with_reducible refine vSeq_i ?_
    | with_reducible first | refine vRegion_i (by kernel_rfl) ?_ | refine Kv_i ?_
    | ((with_reducible apply vStrK_i); (focus (rfl; done)))
    | ((with_reducible refine imp_i ?_); intro _)
    | with_reducible first | refine Ks_n ?_ | refine Ks_r ?_ | refine Ks_e ?_ | refine Kl_e ?_ | refine Kx_n ?_ | refine Kl_r ?_ | refine vRet_i ?_ | refine vSkip_i ?_ | refine vExit_i ?_ | refine vBlock_i ?_ | refine Ks_p ?_ | refine Kl_p ?_ | refine blk_p ?_ | exact Kb_p | refine vGoto_i ?_ | refine vLabel_i ?_ | refine Ks_g ?_ | refine Kl_g ?_ | refine blk_g ?_ | refine jmp_g ?_ | refine jmp_n ?_ | refine jmp_r ?_ | refine nog_n ?_ | refine nog_r ?_ | refine blk_n ?_ | refine blk_r ?_ | refine blk_e ?_ | refine blk_o (by decide) ?_ | refine cp_t ?_ | refine cp_f ?_
    | ((with_reducible apply vCond_x); (focus (simp only [lv, E1, E2, E5, ET, T, orc_mv, noO_mv, mvB, orc_bx, noO_bx, bxB, orc_sx, noO_sx, sxB, fwd, fwds, inv, mOk, Int.toNat_natCast, Nat.div_one, Nat.mul_one, Int.reduceToNat, SB, List.not_mem_nil, ↓reduceIte, ne_eq, reduceCtorEq, Nat.reduceLT, Nat.reduceEqDiff, Nat.reduceAdd, Nat.reduceMul, Nat.reduceLeDiff, Nat.reduceDiv, Nat.reduceMod, Nat.reduceSub, Nat.reduceBEq, zz_len, List.length_map, rn_len, Opn.x, St.x, St.rx, List.length_cons, List.length_nil, noSt, o120, sN120]; with_reducible first | exact Eq.refl (bo true) | exact Eq.refl (bo false))))
    | ((with_reducible refine And.intro ?_ ?_); (focus (try omega)))
  · refine Kf_r ?_
    simp only [Tryd.f8, E4, E3, E2, E5, rawX, deadX, ET, T, SB, List.not_mem_nil, ↓reduceIte, ne_eq, reduceCtorEq, Nat.reduceLT, Nat.reduceEqDiff, Nat.reduceAdd, Nat.reduceMul, Nat.reduceLeDiff, Nat.reduceDiv, Nat.reduceMod, Nat.reduceSub, Nat.reduceBEq, zz_len, List.length_map, rn_len, Opn.x, St.x, St.rx, List.length_cons, List.length_nil, noSt, o120, sN120]
  · rename_i hb
    exact absurd hb (by decide)
end Go.Proofs.YtdpflafjfkooeaaDoorG
/- A21: what is done to a state that may be is one: in plain Lean. -/
namespace Go.Proofs.YtdpflafjfkooeaaDoorG
open Go Go.RowKit Go.Proofs
set_option linter.unusedSimpArgs false
set_option linter.unusedVariables false
theorem inv_inv (c : Ch) : c.inv.inv = c := rfl
theorem scal_app {a b : List Int} (ha : scal a) (hb : scal b) : scal (a ++ b) := fun i hi => by
  by_cases h : i < a.length
  · have := ha i h
    simpa [List.getD, List.getElem?_append, h] using this
  · have := hb (i - a.length) (by simp at hi; omega)
    simpa [List.getD, List.getElem?_append, h] using this
theorem scal_take {a : List Int} (ha : scal a) (n : Nat) : scal (a.take n) := fun i hi => by
  simp at hi
  have := ha i (by omega)
  simpa [List.getD, List.getElem?_take, show i < n by omega] using this
theorem scal_drop {a : List Int} (ha : scal a) (n : Nat) : scal (a.drop n) := fun i hi => by
  simp at hi
  have := ha (n + i) (by omega)
  simpa [List.getD, List.getElem?_drop] using this
theorem scal_done {c : Ch} {t : List Int} (hc : c.good t) (ht : scal t) : scal (c.done t) := scal_app (scal_app (scal_take ht _) hc.2.1) (scal_drop ht _)
/-- A change and its inverse. -/
theorem undone {c : Ch} {t : List Int} (h : c.good t) : c.inv.good (c.done t) ∧ c.inv.done (c.done t) = t := by
  obtain ⟨s1, s2, f1, f2, f3, f4⟩ := h
  obtain ⟨a, ha⟩ : ∃ a : Nat, c.at_ = a := ⟨c.at_.toNat, by omega⟩
  have e1 : c.at_.toNat = a := by omega
  have e2 : (c.at_ + (c.gone.length : Int)).toNat = a + c.gone.length := by omega
  have e3 : (c.at_ + (c.came.length : Int)).toNat = a + c.came.length := by omega
  have hla : (t.take a).length = a := by rw [List.length_take]; omega
  have hlen : (c.done t).length = t.length - c.gone.length + c.came.length := Ch.done_len ⟨f1, f2, f3, f4⟩
  have hd : (c.done t).drop a = c.came ++ t.drop (a + c.gone.length) := by
    unfold Ch.done
    rw [e1, e2, List.append_assoc, List.drop_append_of_le_length (by omega), List.drop_of_length_le (by omega), List.nil_append]
  have hf : c.inv.fits (c.done t) := by
    refine ⟨f1, ?_, ?_, ?_⟩
    · show c.at_ ≤ _; omega
    · show (c.came.length : Int) ≤ _ - c.at_; omega
    · show ((c.done t).drop c.at_.toNat).take c.came.length = c.came
      rw [e1, hd, List.take_left']
      rfl
  refine ⟨⟨s2, s1, hf⟩, ?_⟩
  show (c.done t).take c.at_.toNat ++ c.gone ++ (c.done t).drop (c.at_ + (c.came.length : Int)).toNat = t
  rw [e1, e3]
  have h1 : (c.done t).take a = t.take a := by
    unfold Ch.done
    rw [e1, List.append_assoc, List.take_append_of_le_length (by omega), List.take_take, Nat.min_self]
  have h2 : (c.done t).drop (a + c.came.length) = t.drop (a + c.gone.length) := by
    rw [← List.drop_drop, hd, List.drop_left']
    rfl
  rw [h1, h2]
  rw [e1] at f4
  conv => rhs; rw [← List.take_append_drop a t]
  rw [List.append_assoc]
  congr 1
  conv => rhs; rw [← List.take_append_drop c.gone.length (t.drop a)]
  rw [f4, List.drop_drop]
theorem getD_app {l : List Ch} {x : Ch} : (l ++ [x]).getD l.length noCh = x := by simp [List.getD]
theorem getD_app_lt {l r : List Ch} {k : Nat} (h : k < l.length) : (l ++ r).getD k noCh = l.getD k noCh := by simp [List.getD, List.getElem?_append, h]
theorem walk_app {l r : List Ch} : ∀ {n : Nat} {t : List Int}, n ≤ l.length → walkN (l ++ r) n t = walkN l n t
  | 0, _, _ => rfl
  | n + 1, t, h => by simp only [walkN]; rw [getD_app_lt (by omega), walk_app (by omega)]
theorem walk_snoc {l : List Ch} {x : Ch} {t : List Int} : walkN (l ++ [x]) (l.length + 1) t = (decide (x.good t ∧ (x.done t).length ≤ 4096) && walkN l l.length (x.done t)) := by
  simp only [walkN]; rw [getD_app, walk_app (Nat.le_refl _)]
theorem walk_take {l : List Ch} {m : Nat} : ∀ {n : Nat} {t : List Int}, n ≤ m → walkN (l.take m) n t = walkN l n t
  | 0, _, _ => rfl
  | n + 1, t, h => by
    have e : (l.take m).getD n noCh = l.getD n noCh := by simp [List.getD, List.getElem?_take, show n < m by omega]
    simp only [walkN]; rw [e, walk_take (by omega)]
theorem walk_drop {l : List Ch} : ∀ {n : Nat} {t : List Int}, walkN l (n + 1) t = true → walkN (l.drop 1) n t = true
  | 0, _, _ => rfl
  | n + 1, t, h => by
    rw [walkN, Bool.and_eq_true] at h
    have e : (l.drop 1).getD n noCh = l.getD (n + 1) noCh := by simp [List.getD, List.getElem?_drop, Nat.add_comm]
    rw [walkN, e, Bool.and_eq_true]
    exact ⟨h.1, walk_drop h.2⟩
theorem right_of {s : St} (h1 : s.text.length ≤ 4096) (h2 : s.undo.length + s.redo.length ≤ 16) (h3 : scal s.text) (h4 : walkN (s.undo.map Ch.inv) s.undo.length s.text = true) (h5 : walkN s.redo s.redo.length s.text = true) : rightF s = 0 := by
  unfold rightF
  rw [if_neg (by omega), if_neg (fun h => h h3), if_neg (by rw [h4, h5]; simp)]
end Go.Proofs.YtdpflafjfkooeaaDoorG
/- A22: what Apply leaves may be. -/
namespace Go.Proofs.YtdpflafjfkooeaaDoorG
open Go Go.RowKit Go.Proofs
set_option linter.unusedSimpArgs false
set_option linter.unusedVariables false
theorem app_some {s : St} {o : Opn} (h : (appF s o).2 = 0) : ∃ c, effF s o = (c, 0) := by
  have h0 := app_zero h
  exact ⟨(effF s o).1, by rw [← h0]⟩
theorem right_app {s : St} {o : Opn} (hs : s.ok) (ho : o.ok) (h : (appF s o).2 = 0) : rightF (appF s o).1 = 0 := by
  obtain ⟨c, hI⟩ := app_some h
  obtain ⟨g1, g2, g3⟩ := eff_good hs ho hI
  obtain ⟨z1, z2, z3, z4, z5⟩ := right_zero (eff_zero hI)
  obtain ⟨u1, u2⟩ := undone g1
  unfold appF
  rw [hI, if_neg (fun h => h rfl)]
  split
  · rename_i hk
    have hl := eff_undo hI hk
    have hv := eff_undo_val hI hk
    rw [show ((s.undo.length : Int) - 1).toNat = s.undo.length - 1 by omega] at hv
    refine right_of g3 (by simp; omega) (scal_done g1 z3) ?_ ?_
    · have := walk_head (l := s.undo.map Ch.inv) (by simpa using z4) (by simpa using hl)
      rw [List.length_map, getD_inv, hv, inv_inv] at this
      rw [List.map_take, List.length_take, Nat.min_eq_left (by omega), walk_take (Nat.le_refl _)]
      exact this.2.2
    · show walkN (s.redo ++ [c.inv]) (s.redo ++ [c.inv]).length (c.done s.text) = true
      rw [List.length_append, List.length_cons, List.length_nil, walk_snoc, u2, decide_eq_true ⟨u1, z1⟩, z5]; rfl
  · split
    · rename_i hk3 hk
      have hl := eff_redo hI hk
      have hv := eff_redo_val hI hk
      rw [show ((s.redo.length : Int) - 1).toNat = s.redo.length - 1 by omega] at hv
      refine right_of g3 (by simp; omega) (scal_done g1 z3) ?_ ?_
      · show walkN ((s.undo ++ [c]).map Ch.inv) (s.undo ++ [c]).length (c.done s.text) = true
        rw [List.map_append, List.length_append, List.length_cons, List.length_nil]
        have := walk_snoc (l := s.undo.map Ch.inv) (x := c.inv) (t := c.done s.text)
        rw [List.length_map] at this
        show walkN (s.undo.map Ch.inv ++ [c.inv]) (s.undo.length + 1) _ = true
        rw [this, u2, decide_eq_true ⟨u1, z1⟩, z4]; rfl
      · have := walk_head z5 hl
        rw [hv] at this
        show walkN (s.redo.take (s.redo.length - 1)) (s.redo.take (s.redo.length - 1)).length (c.done s.text) = true
        rw [List.length_take, Nat.min_eq_left (by omega), walk_take (Nat.le_refl _)]
        exact this.2.2
    · rename_i hk3 hk4
      have hw : walkN ((s.undo ++ [c]).map Ch.inv) (s.undo.length + 1) (c.done s.text) = true := by
        have := walk_snoc (l := s.undo.map Ch.inv) (x := c.inv) (t := c.done s.text)
        rw [List.length_map] at this
        rw [List.map_append]
        show walkN (s.undo.map Ch.inv ++ [c.inv]) (s.undo.length + 1) _ = true
        rw [this, u2, decide_eq_true ⟨u1, z1⟩, z4]; rfl
      refine right_of g3 ?_ (scal_done g1 z3) ?_ rfl
      · show (if _ then _ else _ : List Ch).length + 0 ≤ 16
        split <;> simp <;> omega
      · show walkN ((if s.undo.length + 1 > 16 then (s.undo ++ [c]).drop 1 else s.undo ++ [c]).map Ch.inv) (if s.undo.length + 1 > 16 then (s.undo ++ [c]).drop 1 else s.undo ++ [c]).length (c.done s.text) = true
        split
        · rw [List.map_drop, List.length_drop, List.length_append, List.length_cons, List.length_nil]
          exact walk_drop hw
        · rw [List.length_append, List.length_cons, List.length_nil]; exact hw
end Go.Proofs.YtdpflafjfkooeaaDoorG
