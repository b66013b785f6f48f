import Derived.Test.YtmcicjhmgfpihaaA20
import Derived.Test.YtmcicjhmgfpihaaA19
import Derived.Test.YtmcicjhmgfpihaaA28
namespace Go.Proofs.YtmcicjhmgfpihaaG
open Go Go.RowKit Go.Proofs
set_option linter.unusedSimpArgs false
set_option linter.unusedVariables false
theorem bulkL_ge : ∀ (l : List Ch) (n : Int), n ≤ bulkL l n
  | [], n => Int.le_refl _
  | c :: r, n => by
    unfold bulkL
    split
    · have := bulkL_ge r (n + c.gone.length + c.came.length); omega
    · exact Int.le_refl _
theorem bulkL_small : ∀ (l : List Ch) (n : Int), bulkL l n ≤ 20000 → 0 ≤ n → ∀ c ∈ l, c.gone.length ≤ 20000 ∧ c.came.length ≤ 20000
  | [], n, _, _ => by simp
  | c :: r, n, h, h0 => by
    unfold bulkL at h
    split at h
    · have h1 := bulkL_ge r (n + c.gone.length + c.came.length)
      intro x hx
      rcases List.mem_cons.1 hx with rfl | hx
      · omega
      · exact bulkL_small r _ h (by omega) x hx
    · omega
theorem bulk_small {s : St} (h : bulkF s ≤ 20000) : s.text.length ≤ 20000 ∧ s.undo.length ≤ 1000 ∧ s.redo.length ≤ 1000 ∧ ∀ c ∈ s.undo ++ s.redo, c.gone.length ≤ 20000 ∧ c.came.length ≤ 20000 := by
  unfold bulkF at h
  split at h
  · omega
  · have := bulkL_ge (s.undo ++ s.redo) s.text.length
    exact ⟨by omega, by omega, by omega, bulkL_small _ _ h (by omega)⟩
structure Ch.upto (n : Nat) (c : Ch) : Prop where
  gone : c.gone.length ≤ n
  came : c.came.length ≤ n
  rgone : R32s c.gone
  rcame : R32s c.came
structure Opn.upto (n : Nat) (o : Opn) : Prop where
  len : o.text.length ≤ n
  run : R32s o.text
structure St.upto (n : Nat) (s : St) : Prop where
  len : s.text.length ≤ n
  run : R32s s.text
  undo : ∀ c ∈ s.undo, c.upto n
  redo : ∀ c ∈ s.redo, c.upto n
  ulen : s.undo.length ≤ n
  rlen : s.redo.length ≤ n
theorem upto_ok {s : St} (hs : s.upto 1048576) (h : bulkF s ≤ 20000) : s.ok ∧ s.small := by
  obtain ⟨h1, h2, h3, h4⟩ := bulk_small h
  have hu : ∀ c ∈ s.undo, c.ok := fun c hc => ⟨by have := (h4 c (List.mem_append_left _ hc)).1; omega, by have := (h4 c (List.mem_append_left _ hc)).2; omega, (hs.undo c hc).rgone, (hs.undo c hc).rcame⟩
  have hr : ∀ c ∈ s.redo, c.ok := fun c hc => ⟨by have := (h4 c (List.mem_append_right _ hc)).1; omega, by have := (h4 c (List.mem_append_right _ hc)).2; omega, (hs.redo c hc).rgone, (hs.redo c hc).rcame⟩
  exact ⟨⟨by omega, hs.run, hu, hr, by omega, by omega⟩, ⟨by omega, fun c hc => (hu c hc).small, fun c hc => (hr c hc).small, by omega, by omega⟩⟩
set_option maxRecDepth 10000 in
set_option maxHeartbeats 4000000 in
theorem effects_ok (hg : GoesOk) (s : St) (o : Opn) (c : Ch) (hs : s.upto 1048576) (ho : o.upto 1048576) (hc : c.upto 1048576) : CallOk Try.prog 4 [s.x, o.x, c.x] (bo true) [] true := by
  have hw := works_ok hg
  have hb := bulk_ok s (Nat.le_trans hs.len (by omega)) (Nat.le_trans hs.ulen (by omega)) (Nat.le_trans hs.rlen (by omega)) (fun c hc => by
    rcases List.mem_append.1 hc with hc | hc
    · exact ⟨Nat.le_trans (hs.undo c hc).gone (by omega), Nat.le_trans (hs.undo c hc).came (by omega)⟩
    · exact ⟨Nat.le_trans (hs.redo c hc).gone (by omega), Nat.le_trans (hs.redo c hc).came (by omega)⟩)
  refine fn_ok' T_ok (orc_ok _) mixed Try.func4 rfl (by kernel_rfl) (lv [[3, 4, 5], [3, 4, 5, 22], [6], [3, 4, 5, 7], [3, 4, 5, 7, 8, 9], [3, 5, 7, 8, 9, 10, 11], [3, 7, 8, 54], [6], [3, 7, 8, 57, 58], [3, 7, 8, 57, 58, 59], [3, 7, 8, 12, 57, 58], [3, 7, 8, 57, 58], [3, 7, 8, 57, 58], [3, 7, 8, 68, 69], [3, 7, 8, 68, 69, 70], [3, 7, 8, 13, 68, 69], [3, 7, 8, 68, 69], [3, 7, 8, 68, 69], [6]]) 83 rfl (by simp) rfl (by simp [X.all, PX.all, TV.rawR, SV.isRaw]) ?_
  simp only [argsG, Nat.zero_add, Nat.reduceAdd, Opn.x, St.x, Ch.x]
  by_cases hk : bulkF s ≤ 20000 ∧ o.text.length ≤ 20000
  case neg =>
    repeat' first
      | ((with_reducible refine vOps_cons' ?_)
         generalize hk : Kt _ _ _ _ _ _ _ _ _ = k
         simp only [Try.f4, lv, E1, E2, E5, ET, T, Int.toNat_natCast, Nat.div_one, Nat.mul_one, Int.reduceToNat, true_or, or_true, true_and, and_true, decide_true, decide_false, Bool.and_self, Bool.or_self, ↓reduceIte, ne_eq, not_false_eq_true, not_true_eq_false, reduceCtorEq, Nat.reduceLT, Nat.reduceEqDiff, Nat.reduceAdd, Nat.reduceMul, Nat.reduceLeDiff, Nat.reduceDiv, Nat.reduceMod, Nat.reduceSub, Nat.reduceBEq, rn_len, chs_len, chs_cnt, ops_len, ops_cnt, List.length_map, Opn.x, St.x, Ch.x, Ch.rx, Ch.rr, List.length_append]
         try simp (disch := omega) only [wrap_in, Int.toNat_natCast, tv_rn]
         subst hk)
      | with_reducible refine Kt_i ?_
      | ((with_reducible refine vB_i ?_ ?_) <;> intro _ <;> (first | (exfalso; omega) | (try dsimp only [])))
      | ((with_reducible refine vOps_nil' ?_); refine Kr_i (by kernel_rfl) ?_; generalize hk : plain _ _ = G; simp only [lv, E3, E2, E5, rawX, deadX, true_or, or_true, true_and, and_true, decide_true, decide_false, Bool.and_self, Bool.or_self, ↓reduceIte, ne_eq, not_false_eq_true, not_true_eq_false, reduceCtorEq, Nat.reduceLT, Nat.reduceEqDiff, Nat.reduceAdd, Nat.reduceMul, Nat.reduceLeDiff, Nat.reduceDiv, Nat.reduceMod, Nat.reduceSub, Nat.reduceBEq, rn_len, chs_len, chs_cnt, ops_len, ops_cnt, List.length_map, Opn.x, St.x, Ch.x, Ch.rx, Ch.rr, List.length_append] at hk; subst hk)
      | with_reducible refine vSeq_i ?_
      | with_reducible refine vRegion_i (by kernel_rfl) ?_
      | ((with_reducible refine vRegion_s ?_); generalize hk : Kv _ _ _ _ _ _ _ = k; simp only [lv, E1, E2, E5, ET, T, Int.toNat_natCast, Nat.div_one, Nat.mul_one, Int.reduceToNat, true_or, or_true, true_and, and_true, decide_true, decide_false, Bool.and_self, Bool.or_self, ↓reduceIte, ne_eq, not_false_eq_true, not_true_eq_false, reduceCtorEq, Nat.reduceLT, Nat.reduceEqDiff, Nat.reduceAdd, Nat.reduceMul, Nat.reduceLeDiff, Nat.reduceDiv, Nat.reduceMod, Nat.reduceSub, Nat.reduceBEq, rn_len, chs_len, chs_cnt, ops_len, ops_cnt, List.length_map, Opn.x, St.x, Ch.x, Ch.rx, Ch.rr, List.length_append, vSpl, splT, List.getElem?_cons_zero, List.getElem?_cons_succ, List.set_cons_zero, List.set_cons_succ]; subst hk)
      | with_reducible refine Kv_i ?_
      | ((with_reducible refine imp_i ?_); intro _)
      | with_reducible refine Ks_n ?_
      | with_reducible refine Ks_r ?_
      | with_reducible refine Ks_e ?_
      | with_reducible refine Kl_e ?_
      | with_reducible refine Kx_n ?_
      | with_reducible refine Kl_r ?_
      | with_reducible refine vRet_i ?_
      | with_reducible refine vSkip_i ?_
      | with_reducible refine vExit_i ?_
      | with_reducible refine vBlock_i ?_
      | with_reducible refine blk_n ?_
      | with_reducible refine blk_r ?_
      | with_reducible refine blk_e ?_
      | with_reducible refine blk_o (by decide) ?_
      | ((with_reducible refine vCond_t ?_ ?_); (focus (simp only [lv, E1, E2, E5, ET, T, Int.toNat_natCast, Nat.div_one, Nat.mul_one, Int.reduceToNat, true_or, or_true, true_and, and_true, decide_true, decide_false, Bool.and_self, Bool.or_self, ↓reduceIte, ne_eq, not_false_eq_true, not_true_eq_false, reduceCtorEq, Nat.reduceLT, Nat.reduceEqDiff, Nat.reduceAdd, Nat.reduceMul, Nat.reduceLeDiff, Nat.reduceDiv, Nat.reduceMod, Nat.reduceSub, Nat.reduceBEq, rn_len, chs_len, chs_cnt, ops_len, ops_cnt, List.length_map, Opn.x, St.x, Ch.x, Ch.rx, Ch.rr, List.length_append]; done)))
      | ((with_reducible refine vCond_f ?_ ?_); (focus (simp only [lv, E1, E2, E5, ET, T, Int.toNat_natCast, Nat.div_one, Nat.mul_one, Int.reduceToNat, true_or, or_true, true_and, and_true, decide_true, decide_false, Bool.and_self, Bool.or_self, ↓reduceIte, ne_eq, not_false_eq_true, not_true_eq_false, reduceCtorEq, Nat.reduceLT, Nat.reduceEqDiff, Nat.reduceAdd, Nat.reduceMul, Nat.reduceLeDiff, Nat.reduceDiv, Nat.reduceMod, Nat.reduceSub, Nat.reduceBEq, rn_len, chs_len, chs_cnt, ops_len, ops_cnt, List.length_map, Opn.x, St.x, Ch.x, Ch.rx, Ch.rr, List.length_append]; done)))
      | ((with_reducible refine And.intro ?_ ?_); (focus (try omega)))
      | ((with_reducible apply orc_i); (focus (exact hb; done)); (generalize hk : Kt _ _ _ _ _ _ _ _ _ = k; simp only [lv, E1, E2, E5, ET, T, Int.toNat_natCast, Nat.div_one, Nat.mul_one, Int.reduceToNat, true_or, or_true, true_and, and_true, decide_true, decide_false, Bool.and_self, Bool.or_self, ↓reduceIte, ne_eq, not_false_eq_true, not_true_eq_false, reduceCtorEq, Nat.reduceLT, Nat.reduceEqDiff, Nat.reduceAdd, Nat.reduceMul, Nat.reduceLeDiff, Nat.reduceDiv, Nat.reduceMod, Nat.reduceSub, Nat.reduceBEq, rn_len, chs_len, chs_cnt, ops_len, ops_cnt, List.length_map, Opn.x, St.x, Ch.x, Ch.rx, Ch.rr, List.length_append]; (try simp (disch := omega) only [wrap_in, Int.toNat_natCast, tv_rn]); subst hk))
      | ((with_reducible apply orc_i); (focus (exact hw; done)); (generalize hk : Kt _ _ _ _ _ _ _ _ _ = k; simp only [lv, E1, E2, E5, ET, T, Int.toNat_natCast, Nat.div_one, Nat.mul_one, Int.reduceToNat, true_or, or_true, true_and, and_true, decide_true, decide_false, Bool.and_self, Bool.or_self, ↓reduceIte, ne_eq, not_false_eq_true, not_true_eq_false, reduceCtorEq, Nat.reduceLT, Nat.reduceEqDiff, Nat.reduceAdd, Nat.reduceMul, Nat.reduceLeDiff, Nat.reduceDiv, Nat.reduceMod, Nat.reduceSub, Nat.reduceBEq, rn_len, chs_len, chs_cnt, ops_len, ops_cnt, List.length_map, Opn.x, St.x, Ch.x, Ch.rx, Ch.rr, List.length_append]; (try simp (disch := omega) only [wrap_in, Int.toNat_natCast, tv_rn]); subst hk))
    all_goals first
      | (refine Kf_r ?_; simp only [Try.f4, E4, E3, E2, E5, rawX, deadX, ET, T, true_or, or_true, true_and, and_true, decide_true, decide_false, Bool.and_self, Bool.or_self, ↓reduceIte, ne_eq, not_false_eq_true, not_true_eq_false, reduceCtorEq, Nat.reduceLT, Nat.reduceEqDiff, Nat.reduceAdd, Nat.reduceMul, Nat.reduceLeDiff, Nat.reduceDiv, Nat.reduceMod, Nat.reduceSub, Nat.reduceBEq, rn_len, chs_len, chs_cnt, ops_len, ops_cnt, List.length_map, Opn.x, St.x, Ch.x, Ch.rx, Ch.rr, List.length_append]; done)
      | (exfalso; omega)
  obtain ⟨hk1, hk2⟩ := hk
  obtain ⟨sok, ssm⟩ := upto_ok hs hk1
  have ook : o.ok := ⟨by omega, ho.run⟩
  have hcp := copy_ok s ssm
  have he := effect_ok hg s o sok ook
  have hre := refEffect_ok s o sok ook
  rcases hE : effF s o with ⟨c', e⟩
  rw [hE] at he hre
  dsimp only at he hre
  have c'sm : c'.small := by
    by_cases h0 : e = 0
    · subst h0; exact (eff_good sok ook hE).2.1.small
    · have := eff_err (s := s) (o := o) (by rw [hE]; exact h0)
      rw [hE] at this
      dsimp only at this
      rw [this]; exact ⟨by simp [noCh], by simp [noCh]⟩
  have csm : c.small := ⟨Nat.le_trans hc.gone (by omega), Nat.le_trans hc.came (by omega)⟩
  have q1 : CallOk Try.prog 21 [c'.x, c'.x] (bo true) [] true := by
    have := sameCh_ok c' c' c'sm c'sm
    rwa [decide_eq_true rfl] at this
  have q2 := inverse_ok c csm
  have q3 := turned_ok c csm
  have q4 : CallOk Try.prog 21 [c.inv.x, c.inv.x] (bo true) [] true := by
    have := sameCh_ok c.inv c.inv csm.symm csm.symm
    rwa [decide_eq_true rfl] at this
  have q5 : CallOk Try.prog 13 [s.x, s.x] (bo true) [] true := by
    have := sameSt_ok s s ssm ssm
    rwa [decide_eq_true rfl] at this
  repeat' first
    | ((with_reducible refine vOps_cons' ?_)
       generalize hk : Kt _ _ _ _ _ _ _ _ _ = k
       simp only [Try.f4, lv, E1, E2, E5, ET, T, Int.toNat_natCast, Nat.div_one, Nat.mul_one, Int.reduceToNat, true_or, or_true, true_and, and_true, decide_true, decide_false, Bool.and_self, Bool.or_self, ↓reduceIte, ne_eq, not_false_eq_true, not_true_eq_false, reduceCtorEq, Nat.reduceLT, Nat.reduceEqDiff, Nat.reduceAdd, Nat.reduceMul, Nat.reduceLeDiff, Nat.reduceDiv, Nat.reduceMod, Nat.reduceSub, Nat.reduceBEq, rn_len, chs_len, chs_cnt, ops_len, ops_cnt, List.length_map, Opn.x, St.x, Ch.x, Ch.rx, Ch.rr, List.length_append]
       try simp (disch := omega) only [wrap_in, Int.toNat_natCast, tv_rn]
       subst hk)
    | with_reducible refine Kt_i ?_
    | ((with_reducible refine vB_i ?_ ?_) <;> intro _ <;> (first | (exfalso; omega) | (try dsimp only [])))
    | ((with_reducible refine vOps_nil' ?_); refine Kr_i (by kernel_rfl) ?_; generalize hk : plain _ _ = G; simp only [lv, E3, E2, E5, rawX, deadX, true_or, or_true, true_and, and_true, decide_true, decide_false, Bool.and_self, Bool.or_self, ↓reduceIte, ne_eq, not_false_eq_true, not_true_eq_false, reduceCtorEq, Nat.reduceLT, Nat.reduceEqDiff, Nat.reduceAdd, Nat.reduceMul, Nat.reduceLeDiff, Nat.reduceDiv, Nat.reduceMod, Nat.reduceSub, Nat.reduceBEq, rn_len, chs_len, chs_cnt, ops_len, ops_cnt, List.length_map, Opn.x, St.x, Ch.x, Ch.rx, Ch.rr, List.length_append] at hk; subst hk)
    | with_reducible refine vSeq_i ?_
    | with_reducible refine vRegion_i (by kernel_rfl) ?_
    | ((with_reducible refine vRegion_s ?_); generalize hk : Kv _ _ _ _ _ _ _ = k; simp only [lv, E1, E2, E5, ET, T, Int.toNat_natCast, Nat.div_one, Nat.mul_one, Int.reduceToNat, true_or, or_true, true_and, and_true, decide_true, decide_false, Bool.and_self, Bool.or_self, ↓reduceIte, ne_eq, not_false_eq_true, not_true_eq_false, reduceCtorEq, Nat.reduceLT, Nat.reduceEqDiff, Nat.reduceAdd, Nat.reduceMul, Nat.reduceLeDiff, Nat.reduceDiv, Nat.reduceMod, Nat.reduceSub, Nat.reduceBEq, rn_len, chs_len, chs_cnt, ops_len, ops_cnt, List.length_map, Opn.x, St.x, Ch.x, Ch.rx, Ch.rr, List.length_append, vSpl, splT, List.getElem?_cons_zero, List.getElem?_cons_succ, List.set_cons_zero, List.set_cons_succ]; subst hk)
    | with_reducible refine Kv_i ?_
    | ((with_reducible refine imp_i ?_); intro _)
    | with_reducible refine Ks_n ?_
    | with_reducible refine Ks_r ?_
    | with_reducible refine Ks_e ?_
    | with_reducible refine Kl_e ?_
    | with_reducible refine Kx_n ?_
    | with_reducible refine Kl_r ?_
    | with_reducible refine vRet_i ?_
    | with_reducible refine vSkip_i ?_
    | with_reducible refine vExit_i ?_
    | with_reducible refine vBlock_i ?_
    | with_reducible refine blk_n ?_
    | with_reducible refine blk_r ?_
    | with_reducible refine blk_e ?_
    | with_reducible refine blk_o (by decide) ?_
    | ((with_reducible refine vCond_t ?_ ?_); (focus (simp only [lv, E1, E2, E5, ET, T, Int.toNat_natCast, Nat.div_one, Nat.mul_one, Int.reduceToNat, true_or, or_true, true_and, and_true, decide_true, decide_false, Bool.and_self, Bool.or_self, ↓reduceIte, ne_eq, not_false_eq_true, not_true_eq_false, reduceCtorEq, Nat.reduceLT, Nat.reduceEqDiff, Nat.reduceAdd, Nat.reduceMul, Nat.reduceLeDiff, Nat.reduceDiv, Nat.reduceMod, Nat.reduceSub, Nat.reduceBEq, rn_len, chs_len, chs_cnt, ops_len, ops_cnt, List.length_map, Opn.x, St.x, Ch.x, Ch.rx, Ch.rr, List.length_append]; done)))
    | ((with_reducible refine vCond_f ?_ ?_); (focus (simp only [lv, E1, E2, E5, ET, T, Int.toNat_natCast, Nat.div_one, Nat.mul_one, Int.reduceToNat, true_or, or_true, true_and, and_true, decide_true, decide_false, Bool.and_self, Bool.or_self, ↓reduceIte, ne_eq, not_false_eq_true, not_true_eq_false, reduceCtorEq, Nat.reduceLT, Nat.reduceEqDiff, Nat.reduceAdd, Nat.reduceMul, Nat.reduceLeDiff, Nat.reduceDiv, Nat.reduceMod, Nat.reduceSub, Nat.reduceBEq, rn_len, chs_len, chs_cnt, ops_len, ops_cnt, List.length_map, Opn.x, St.x, Ch.x, Ch.rx, Ch.rr, List.length_append]; done)))
    | ((with_reducible refine And.intro ?_ ?_); (focus (try omega)))
    | ((with_reducible apply orc_i); (focus (exact hb; done)); (generalize hk : Kt _ _ _ _ _ _ _ _ _ = k; simp only [lv, E1, E2, E5, ET, T, Int.toNat_natCast, Nat.div_one, Nat.mul_one, Int.reduceToNat, true_or, or_true, true_and, and_true, decide_true, decide_false, Bool.and_self, Bool.or_self, ↓reduceIte, ne_eq, not_false_eq_true, not_true_eq_false, reduceCtorEq, Nat.reduceLT, Nat.reduceEqDiff, Nat.reduceAdd, Nat.reduceMul, Nat.reduceLeDiff, Nat.reduceDiv, Nat.reduceMod, Nat.reduceSub, Nat.reduceBEq, rn_len, chs_len, chs_cnt, ops_len, ops_cnt, List.length_map, Opn.x, St.x, Ch.x, Ch.rx, Ch.rr, List.length_append]; (try simp (disch := omega) only [wrap_in, Int.toNat_natCast, tv_rn]); subst hk))
    | ((with_reducible apply orc_i); (focus (exact hcp; done)); (generalize hk : Kt _ _ _ _ _ _ _ _ _ = k; simp only [lv, E1, E2, E5, ET, T, Int.toNat_natCast, Nat.div_one, Nat.mul_one, Int.reduceToNat, true_or, or_true, true_and, and_true, decide_true, decide_false, Bool.and_self, Bool.or_self, ↓reduceIte, ne_eq, not_false_eq_true, not_true_eq_false, reduceCtorEq, Nat.reduceLT, Nat.reduceEqDiff, Nat.reduceAdd, Nat.reduceMul, Nat.reduceLeDiff, Nat.reduceDiv, Nat.reduceMod, Nat.reduceSub, Nat.reduceBEq, rn_len, chs_len, chs_cnt, ops_len, ops_cnt, List.length_map, Opn.x, St.x, Ch.x, Ch.rx, Ch.rr, List.length_append]; (try simp (disch := omega) only [wrap_in, Int.toNat_natCast, tv_rn]); subst hk))
    | ((with_reducible apply orc_i); (focus (exact he; done)); (generalize hk : Kt _ _ _ _ _ _ _ _ _ = k; simp only [lv, E1, E2, E5, ET, T, Int.toNat_natCast, Nat.div_one, Nat.mul_one, Int.reduceToNat, true_or, or_true, true_and, and_true, decide_true, decide_false, Bool.and_self, Bool.or_self, ↓reduceIte, ne_eq, not_false_eq_true, not_true_eq_false, reduceCtorEq, Nat.reduceLT, Nat.reduceEqDiff, Nat.reduceAdd, Nat.reduceMul, Nat.reduceLeDiff, Nat.reduceDiv, Nat.reduceMod, Nat.reduceSub, Nat.reduceBEq, rn_len, chs_len, chs_cnt, ops_len, ops_cnt, List.length_map, Opn.x, St.x, Ch.x, Ch.rx, Ch.rr, List.length_append]; (try simp (disch := omega) only [wrap_in, Int.toNat_natCast, tv_rn]); subst hk))
    | ((with_reducible apply orc_i); (focus (exact hre; done)); (generalize hk : Kt _ _ _ _ _ _ _ _ _ = k; simp only [lv, E1, E2, E5, ET, T, Int.toNat_natCast, Nat.div_one, Nat.mul_one, Int.reduceToNat, true_or, or_true, true_and, and_true, decide_true, decide_false, Bool.and_self, Bool.or_self, ↓reduceIte, ne_eq, not_false_eq_true, not_true_eq_false, reduceCtorEq, Nat.reduceLT, Nat.reduceEqDiff, Nat.reduceAdd, Nat.reduceMul, Nat.reduceLeDiff, Nat.reduceDiv, Nat.reduceMod, Nat.reduceSub, Nat.reduceBEq, rn_len, chs_len, chs_cnt, ops_len, ops_cnt, List.length_map, Opn.x, St.x, Ch.x, Ch.rx, Ch.rr, List.length_append]; (try simp (disch := omega) only [wrap_in, Int.toNat_natCast, tv_rn]); subst hk))
    | ((with_reducible apply orc_i); (focus (exact q1; done)); (generalize hk : Kt _ _ _ _ _ _ _ _ _ = k; simp only [lv, E1, E2, E5, ET, T, Int.toNat_natCast, Nat.div_one, Nat.mul_one, Int.reduceToNat, true_or, or_true, true_and, and_true, decide_true, decide_false, Bool.and_self, Bool.or_self, ↓reduceIte, ne_eq, not_false_eq_true, not_true_eq_false, reduceCtorEq, Nat.reduceLT, Nat.reduceEqDiff, Nat.reduceAdd, Nat.reduceMul, Nat.reduceLeDiff, Nat.reduceDiv, Nat.reduceMod, Nat.reduceSub, Nat.reduceBEq, rn_len, chs_len, chs_cnt, ops_len, ops_cnt, List.length_map, Opn.x, St.x, Ch.x, Ch.rx, Ch.rr, List.length_append]; (try simp (disch := omega) only [wrap_in, Int.toNat_natCast, tv_rn]); subst hk))
    | ((with_reducible apply orc_i); (focus (exact q2; done)); (generalize hk : Kt _ _ _ _ _ _ _ _ _ = k; simp only [lv, E1, E2, E5, ET, T, Int.toNat_natCast, Nat.div_one, Nat.mul_one, Int.reduceToNat, true_or, or_true, true_and, and_true, decide_true, decide_false, Bool.and_self, Bool.or_self, ↓reduceIte, ne_eq, not_false_eq_true, not_true_eq_false, reduceCtorEq, Nat.reduceLT, Nat.reduceEqDiff, Nat.reduceAdd, Nat.reduceMul, Nat.reduceLeDiff, Nat.reduceDiv, Nat.reduceMod, Nat.reduceSub, Nat.reduceBEq, rn_len, chs_len, chs_cnt, ops_len, ops_cnt, List.length_map, Opn.x, St.x, Ch.x, Ch.rx, Ch.rr, List.length_append]; (try simp (disch := omega) only [wrap_in, Int.toNat_natCast, tv_rn]); subst hk))
    | ((with_reducible apply orc_i); (focus (exact q3; done)); (generalize hk : Kt _ _ _ _ _ _ _ _ _ = k; simp only [lv, E1, E2, E5, ET, T, Int.toNat_natCast, Nat.div_one, Nat.mul_one, Int.reduceToNat, true_or, or_true, true_and, and_true, decide_true, decide_false, Bool.and_self, Bool.or_self, ↓reduceIte, ne_eq, not_false_eq_true, not_true_eq_false, reduceCtorEq, Nat.reduceLT, Nat.reduceEqDiff, Nat.reduceAdd, Nat.reduceMul, Nat.reduceLeDiff, Nat.reduceDiv, Nat.reduceMod, Nat.reduceSub, Nat.reduceBEq, rn_len, chs_len, chs_cnt, ops_len, ops_cnt, List.length_map, Opn.x, St.x, Ch.x, Ch.rx, Ch.rr, List.length_append]; (try simp (disch := omega) only [wrap_in, Int.toNat_natCast, tv_rn]); subst hk))
    | ((with_reducible apply orc_i); (focus (exact q4; done)); (generalize hk : Kt _ _ _ _ _ _ _ _ _ = k; simp only [lv, E1, E2, E5, ET, T, Int.toNat_natCast, Nat.div_one, Nat.mul_one, Int.reduceToNat, true_or, or_true, true_and, and_true, decide_true, decide_false, Bool.and_self, Bool.or_self, ↓reduceIte, ne_eq, not_false_eq_true, not_true_eq_false, reduceCtorEq, Nat.reduceLT, Nat.reduceEqDiff, Nat.reduceAdd, Nat.reduceMul, Nat.reduceLeDiff, Nat.reduceDiv, Nat.reduceMod, Nat.reduceSub, Nat.reduceBEq, rn_len, chs_len, chs_cnt, ops_len, ops_cnt, List.length_map, Opn.x, St.x, Ch.x, Ch.rx, Ch.rr, List.length_append]; (try simp (disch := omega) only [wrap_in, Int.toNat_natCast, tv_rn]); subst hk))
  all_goals first
    | (rename_i hx; exact absurd trivial hx)
    | exact absurd trivial (by assumption)
    | (exfalso; omega)
    | skip
  generalize hg1 : rn c'.gone = ys
  generalize hg2 : rn c'.came = us
  have hyl : ys.length = c'.gone.length := by rw [← hg1, rn_len]
  have hul : us.length = c'.came.length := by rw [← hg2, rn_len]
  obtain ⟨n1, hn1⟩ : ∃ n, n = c'.gone.length := ⟨_, rfl⟩
  obtain ⟨n2, hn2⟩ : ∃ n, n = c'.came.length := ⟨_, rfl⟩
  have b1 : n1 ≤ 2000000 := by have := c'sm.1; omega
  have b2 : n2 ≤ 2000000 := by have := c'sm.2; omega
  rw [← hn1]
  refine vLoop_s (fun z : Nat × List SV => [(.t 3, .t (.p (.one (.pr 0 0)))), (.t 7, .t (.p (.one (.pr 1 0)))), (.t 8, .t (.p (.one (.pr 2 0)))), (.t 57, .t (i64 n1)), (.t 58, .t (i64 z.1)), (.box 0, .box 25 [.v (.sl 1 (rn s.text)), .v (.sl 3 (chs s.undo)), .v (.sl 3 (chs s.redo))]), (.box 1, .box 25 [.v (.sl 1 (rn s.text)), .v (.sl 3 (chs s.undo)), .v (.sl 3 (chs s.redo))]), (.box 2, .box 42 [.v (.raw (.int .i64 c'.at_)), .sr 3, .sr 4]), (.row 3, .row 21 1 z.2), (.row 4, .row 21 1 us)])
    (fun z => z.1 ≤ n1 ∧ z.2.length = n1) (fun z => n1 - z.1) (0, ys) ⟨Nat.zero_le _, by dsimp only; omega⟩ rfl ?_
  rintro ⟨k, zs⟩ ⟨hk, hz⟩
  dsimp only at hk hz ⊢
  repeat' first
    | ((with_reducible refine vOps_cons' ?_)
       generalize hk : Kt _ _ _ _ _ _ _ _ _ = k
       simp only [Try.f4, lv, E1, E2, E5, ET, T, Int.toNat_natCast, Nat.div_one, Nat.mul_one, Int.reduceToNat, true_or, or_true, true_and, and_true, decide_true, decide_false, Bool.and_self, Bool.or_self, ↓reduceIte, ne_eq, not_false_eq_true, not_true_eq_false, reduceCtorEq, Nat.reduceLT, Nat.reduceEqDiff, Nat.reduceAdd, Nat.reduceMul, Nat.reduceLeDiff, Nat.reduceDiv, Nat.reduceMod, Nat.reduceSub, Nat.reduceBEq, rn_len, chs_len, chs_cnt, ops_len, ops_cnt, List.length_map, Opn.x, St.x, Ch.x, Ch.rx, Ch.rr, List.length_append]
       try simp (disch := omega) only [wrap_in, Int.toNat_natCast, tv_rn]
       subst hk)
    | with_reducible refine Kt_i ?_
    | ((with_reducible refine vB_i ?_ ?_) <;> intro _ <;> (first | (exfalso; omega) | (try dsimp only [])))
    | ((with_reducible refine vOps_nil' ?_); refine Kr_i (by kernel_rfl) ?_; generalize hk : plain _ _ = G; simp only [lv, E3, E2, E5, rawX, deadX, true_or, or_true, true_and, and_true, decide_true, decide_false, Bool.and_self, Bool.or_self, ↓reduceIte, ne_eq, not_false_eq_true, not_true_eq_false, reduceCtorEq, Nat.reduceLT, Nat.reduceEqDiff, Nat.reduceAdd, Nat.reduceMul, Nat.reduceLeDiff, Nat.reduceDiv, Nat.reduceMod, Nat.reduceSub, Nat.reduceBEq, rn_len, chs_len, chs_cnt, ops_len, ops_cnt, List.length_map, Opn.x, St.x, Ch.x, Ch.rx, Ch.rr, List.length_append] at hk; subst hk)
    | with_reducible refine vSeq_i ?_
    | with_reducible refine vRegion_i (by kernel_rfl) ?_
    | ((with_reducible refine vRegion_s ?_); generalize hk : Kv _ _ _ _ _ _ _ = k; simp only [lv, E1, E2, E5, ET, T, Int.toNat_natCast, Nat.div_one, Nat.mul_one, Int.reduceToNat, true_or, or_true, true_and, and_true, decide_true, decide_false, Bool.and_self, Bool.or_self, ↓reduceIte, ne_eq, not_false_eq_true, not_true_eq_false, reduceCtorEq, Nat.reduceLT, Nat.reduceEqDiff, Nat.reduceAdd, Nat.reduceMul, Nat.reduceLeDiff, Nat.reduceDiv, Nat.reduceMod, Nat.reduceSub, Nat.reduceBEq, rn_len, chs_len, chs_cnt, ops_len, ops_cnt, List.length_map, Opn.x, St.x, Ch.x, Ch.rx, Ch.rr, List.length_append, vSpl, splT, List.getElem?_cons_zero, List.getElem?_cons_succ, List.set_cons_zero, List.set_cons_succ]; subst hk)
    | with_reducible refine Kv_i ?_
    | ((with_reducible refine imp_i ?_); intro _)
    | with_reducible refine Ks_n ?_
    | with_reducible refine Ks_r ?_
    | with_reducible refine Ks_e ?_
    | with_reducible refine Kl_e ?_
    | with_reducible refine Kx_n ?_
    | with_reducible refine Kl_r ?_
    | with_reducible refine vRet_i ?_
    | with_reducible refine vSkip_i ?_
    | with_reducible refine vExit_i ?_
    | with_reducible refine vBlock_i ?_
    | with_reducible refine blk_n ?_
    | with_reducible refine blk_r ?_
    | with_reducible refine blk_e ?_
    | with_reducible refine blk_o (by decide) ?_
    | ((with_reducible refine vCond_t ?_ ?_); (focus (simp only [lv, E1, E2, E5, ET, T, Int.toNat_natCast, Nat.div_one, Nat.mul_one, Int.reduceToNat, true_or, or_true, true_and, and_true, decide_true, decide_false, Bool.and_self, Bool.or_self, ↓reduceIte, ne_eq, not_false_eq_true, not_true_eq_false, reduceCtorEq, Nat.reduceLT, Nat.reduceEqDiff, Nat.reduceAdd, Nat.reduceMul, Nat.reduceLeDiff, Nat.reduceDiv, Nat.reduceMod, Nat.reduceSub, Nat.reduceBEq, rn_len, chs_len, chs_cnt, ops_len, ops_cnt, List.length_map, Opn.x, St.x, Ch.x, Ch.rx, Ch.rr, List.length_append]; done)))
    | ((with_reducible refine vCond_f ?_ ?_); (focus (simp only [lv, E1, E2, E5, ET, T, Int.toNat_natCast, Nat.div_one, Nat.mul_one, Int.reduceToNat, true_or, or_true, true_and, and_true, decide_true, decide_false, Bool.and_self, Bool.or_self, ↓reduceIte, ne_eq, not_false_eq_true, not_true_eq_false, reduceCtorEq, Nat.reduceLT, Nat.reduceEqDiff, Nat.reduceAdd, Nat.reduceMul, Nat.reduceLeDiff, Nat.reduceDiv, Nat.reduceMod, Nat.reduceSub, Nat.reduceBEq, rn_len, chs_len, chs_cnt, ops_len, ops_cnt, List.length_map, Opn.x, St.x, Ch.x, Ch.rx, Ch.rr, List.length_append]; done)))
    | ((with_reducible refine And.intro ?_ ?_); (focus (try omega)))
  all_goals try omega
  · refine Kl_n ⟨(k + 1, zs.take k ++ [.raw (.int .i32 (-1))] ++ zs.drop (k + 1)), ⟨by dsimp only; omega, ?_⟩, by dsimp only; omega, ?_⟩
    · simp; omega
    · simp only [Int.natCast_add, Int.natCast_one]
  have hul2 : us.length = n2 := by omega
  rw [hul2]
  refine vLoop_s (fun z : Nat × List SV => [(.t 3, .t (.p (.one (.pr 0 0)))), (.t 7, .t (.p (.one (.pr 1 0)))), (.t 8, .t (.p (.one (.pr 2 0)))), (.t 68, .t (i64 n2)), (.t 69, .t (i64 z.1)), (.box 0, .box 25 [.v (.sl 1 (rn s.text)), .v (.sl 3 (chs s.undo)), .v (.sl 3 (chs s.redo))]), (.box 1, .box 25 [.v (.sl 1 (rn s.text)), .v (.sl 3 (chs s.undo)), .v (.sl 3 (chs s.redo))]), (.box 2, .box 42 [.v (.raw (.int .i64 c'.at_)), .sr 3, .sr 4]), (.row 3, .row 21 1 zs), (.row 4, .row 21 1 z.2)])
    (fun z => z.1 ≤ n2 ∧ z.2.length = n2) (fun z => n2 - z.1) (0, us) ⟨Nat.zero_le _, hul2⟩ rfl ?_
  rintro ⟨k2, zs2⟩ ⟨hk2, hz2⟩
  dsimp only at hk2 hz2 ⊢
  repeat' first
    | ((with_reducible refine vOps_cons' ?_)
       generalize hk : Kt _ _ _ _ _ _ _ _ _ = k
       simp only [Try.f4, lv, E1, E2, E5, ET, T, Int.toNat_natCast, Nat.div_one, Nat.mul_one, Int.reduceToNat, true_or, or_true, true_and, and_true, decide_true, decide_false, Bool.and_self, Bool.or_self, ↓reduceIte, ne_eq, not_false_eq_true, not_true_eq_false, reduceCtorEq, Nat.reduceLT, Nat.reduceEqDiff, Nat.reduceAdd, Nat.reduceMul, Nat.reduceLeDiff, Nat.reduceDiv, Nat.reduceMod, Nat.reduceSub, Nat.reduceBEq, rn_len, chs_len, chs_cnt, ops_len, ops_cnt, List.length_map, Opn.x, St.x, Ch.x, Ch.rx, Ch.rr, List.length_append]
       try simp (disch := omega) only [wrap_in, Int.toNat_natCast, tv_rn]
       subst hk)
    | with_reducible refine Kt_i ?_
    | ((with_reducible refine vB_i ?_ ?_) <;> intro _ <;> (first | (exfalso; omega) | (try dsimp only [])))
    | ((with_reducible refine vOps_nil' ?_); refine Kr_i (by kernel_rfl) ?_; generalize hk : plain _ _ = G; simp only [lv, E3, E2, E5, rawX, deadX, true_or, or_true, true_and, and_true, decide_true, decide_false, Bool.and_self, Bool.or_self, ↓reduceIte, ne_eq, not_false_eq_true, not_true_eq_false, reduceCtorEq, Nat.reduceLT, Nat.reduceEqDiff, Nat.reduceAdd, Nat.reduceMul, Nat.reduceLeDiff, Nat.reduceDiv, Nat.reduceMod, Nat.reduceSub, Nat.reduceBEq, rn_len, chs_len, chs_cnt, ops_len, ops_cnt, List.length_map, Opn.x, St.x, Ch.x, Ch.rx, Ch.rr, List.length_append] at hk; subst hk)
    | with_reducible refine vSeq_i ?_
    | with_reducible refine vRegion_i (by kernel_rfl) ?_
    | ((with_reducible refine vRegion_s ?_); generalize hk : Kv _ _ _ _ _ _ _ = k; simp only [lv, E1, E2, E5, ET, T, Int.toNat_natCast, Nat.div_one, Nat.mul_one, Int.reduceToNat, true_or, or_true, true_and, and_true, decide_true, decide_false, Bool.and_self, Bool.or_self, ↓reduceIte, ne_eq, not_false_eq_true, not_true_eq_false, reduceCtorEq, Nat.reduceLT, Nat.reduceEqDiff, Nat.reduceAdd, Nat.reduceMul, Nat.reduceLeDiff, Nat.reduceDiv, Nat.reduceMod, Nat.reduceSub, Nat.reduceBEq, rn_len, chs_len, chs_cnt, ops_len, ops_cnt, List.length_map, Opn.x, St.x, Ch.x, Ch.rx, Ch.rr, List.length_append, vSpl, splT, List.getElem?_cons_zero, List.getElem?_cons_succ, List.set_cons_zero, List.set_cons_succ]; subst hk)
    | with_reducible refine Kv_i ?_
    | ((with_reducible refine imp_i ?_); intro _)
    | with_reducible refine Ks_n ?_
    | with_reducible refine Ks_r ?_
    | with_reducible refine Ks_e ?_
    | with_reducible refine Kl_e ?_
    | with_reducible refine Kx_n ?_
    | with_reducible refine Kl_r ?_
    | with_reducible refine vRet_i ?_
    | with_reducible refine vSkip_i ?_
    | with_reducible refine vExit_i ?_
    | with_reducible refine vBlock_i ?_
    | with_reducible refine blk_n ?_
    | with_reducible refine blk_r ?_
    | with_reducible refine blk_e ?_
    | with_reducible refine blk_o (by decide) ?_
    | ((with_reducible refine vCond_t ?_ ?_); (focus (simp only [lv, E1, E2, E5, ET, T, Int.toNat_natCast, Nat.div_one, Nat.mul_one, Int.reduceToNat, true_or, or_true, true_and, and_true, decide_true, decide_false, Bool.and_self, Bool.or_self, ↓reduceIte, ne_eq, not_false_eq_true, not_true_eq_false, reduceCtorEq, Nat.reduceLT, Nat.reduceEqDiff, Nat.reduceAdd, Nat.reduceMul, Nat.reduceLeDiff, Nat.reduceDiv, Nat.reduceMod, Nat.reduceSub, Nat.reduceBEq, rn_len, chs_len, chs_cnt, ops_len, ops_cnt, List.length_map, Opn.x, St.x, Ch.x, Ch.rx, Ch.rr, List.length_append]; done)))
    | ((with_reducible refine vCond_f ?_ ?_); (focus (simp only [lv, E1, E2, E5, ET, T, Int.toNat_natCast, Nat.div_one, Nat.mul_one, Int.reduceToNat, true_or, or_true, true_and, and_true, decide_true, decide_false, Bool.and_self, Bool.or_self, ↓reduceIte, ne_eq, not_false_eq_true, not_true_eq_false, reduceCtorEq, Nat.reduceLT, Nat.reduceEqDiff, Nat.reduceAdd, Nat.reduceMul, Nat.reduceLeDiff, Nat.reduceDiv, Nat.reduceMod, Nat.reduceSub, Nat.reduceBEq, rn_len, chs_len, chs_cnt, ops_len, ops_cnt, List.length_map, Opn.x, St.x, Ch.x, Ch.rx, Ch.rr, List.length_append]; done)))
    | ((with_reducible refine And.intro ?_ ?_); (focus (try omega)))
    | ((with_reducible apply orc_i); (focus (exact q5; done)); (generalize hk : Kt _ _ _ _ _ _ _ _ _ = k; simp only [lv, E1, E2, E5, ET, T, Int.toNat_natCast, Nat.div_one, Nat.mul_one, Int.reduceToNat, true_or, or_true, true_and, and_true, decide_true, decide_false, Bool.and_self, Bool.or_self, ↓reduceIte, ne_eq, not_false_eq_true, not_true_eq_false, reduceCtorEq, Nat.reduceLT, Nat.reduceEqDiff, Nat.reduceAdd, Nat.reduceMul, Nat.reduceLeDiff, Nat.reduceDiv, Nat.reduceMod, Nat.reduceSub, Nat.reduceBEq, rn_len, chs_len, chs_cnt, ops_len, ops_cnt, List.length_map, Opn.x, St.x, Ch.x, Ch.rx, Ch.rr, List.length_append]; (try simp (disch := omega) only [wrap_in, Int.toNat_natCast, tv_rn]); subst hk))
    | ((with_reducible apply orc_i); (focus (exact hw; done)); (generalize hk : Kt _ _ _ _ _ _ _ _ _ = k; simp only [lv, E1, E2, E5, ET, T, Int.toNat_natCast, Nat.div_one, Nat.mul_one, Int.reduceToNat, true_or, or_true, true_and, and_true, decide_true, decide_false, Bool.and_self, Bool.or_self, ↓reduceIte, ne_eq, not_false_eq_true, not_true_eq_false, reduceCtorEq, Nat.reduceLT, Nat.reduceEqDiff, Nat.reduceAdd, Nat.reduceMul, Nat.reduceLeDiff, Nat.reduceDiv, Nat.reduceMod, Nat.reduceSub, Nat.reduceBEq, rn_len, chs_len, chs_cnt, ops_len, ops_cnt, List.length_map, Opn.x, St.x, Ch.x, Ch.rx, Ch.rr, List.length_append]; (try simp (disch := omega) only [wrap_in, Int.toNat_natCast, tv_rn]); subst hk))
  all_goals try omega
  · refine Kl_n ⟨(k2 + 1, zs2.take k2 ++ [.raw (.int .i32 (-1))] ++ zs2.drop (k2 + 1)), ⟨by dsimp only; omega, ?_⟩, by dsimp only; omega, ?_⟩
    · simp; omega
    · simp only [Int.natCast_add, Int.natCast_one]
  refine Kf_r ?_
  simp only [Try.f4, E4, E3, E2, E5, rawX, deadX, ET, T, true_or, or_true, true_and, and_true, decide_true, decide_false, Bool.and_self, Bool.or_self, ↓reduceIte, ne_eq, not_false_eq_true, not_true_eq_false, reduceCtorEq, Nat.reduceLT, Nat.reduceEqDiff, Nat.reduceAdd, Nat.reduceMul, Nat.reduceLeDiff, Nat.reduceDiv, Nat.reduceMod, Nat.reduceSub, Nat.reduceBEq, rn_len, chs_len, chs_cnt, ops_len, ops_cnt, List.length_map, Opn.x, St.x, Ch.x, Ch.rx, Ch.rr, List.length_append]
end Go.Proofs.YtmcicjhmgfpihaaG
