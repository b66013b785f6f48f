import Derived.Test.YtmcicjhmgfpihaaA24
import Derived.Test.YtmcicjhmgfpihaaA20
import Derived.Test.YtmcicjhmgfpihaaA25b
namespace Go.Proofs.YtmcicjhmgfpihaaG
open Go Go.RowKit Go.Proofs
set_option linter.unusedSimpArgs false
set_option linter.unusedVariables false
theorem app_err {s : St} {o : Opn} (h : (appF s o).2 ≠ 0) : (appF s o).1 = ⟨[], [], []⟩ := by
  unfold appF at h ⊢
  split at h
  · rename_i h1; rw [if_pos h1]
  · exfalso
    (repeat' split at h) <;> exact h rfl
set_option maxRecDepth 10000 in
set_option maxHeartbeats 4000000 in
theorem back_ok (hg : GoesOk) (l : List Opn) (o : Opn) (hl : l.length ≤ 2000000) (h : ∀ o ∈ l, R32s o.text) (h2 : ∀ o ∈ l, o.text.length ≤ 2000000) (ho : R32s o.text) (ho2 : o.text.length ≤ 2000000) : CallOk Try.prog 5 [sln 4 (ops l), o.x] (bo true) [] true := by
  have hw := works_ok hg
  have hwr := written_ok hg l hl h h2
  have hs := wrN_ok h (min l.length 40) (Nat.min_le_left _ _)
  generalize hS : wrN l (min l.length 40) = s at hwr hs
  refine fn_ok' T_ok (orc_ok _) mixed Try.func5 rfl (by kernel_rfl) (lv [[0, 3], [0, 3, 15], [4], [0, 3, 19], [4], [3, 5], [3, 5], [5, 6, 7, 1000006], [5, 6, 34], [4], [5, 6, 8, 9, 1000008], [5, 6, 8, 9, 10, 11, 1000010], [6, 8, 10, 90], [4], [6, 8, 10, 12, 13, 1000012], [4]]) 121 rfl (by simp) rfl (by simp [X.all, PX.all, TV.rawR, SV.isRaw]) ?_
  simp only [argsG, Nat.zero_add, Nat.reduceAdd, Opn.x]
  repeat' first
    | ((with_reducible refine vOps_cons' ?_)
       generalize hk : Kt _ _ _ _ _ _ _ _ _ = k
       simp only [Try.f5, lv, E1, E2, E5, ET, T, Int.toNat_natCast, Nat.div_one, Nat.mul_one, Int.reduceToNat, true_or, or_true, true_and, and_true, decide_true, decide_false, Bool.and_self, Bool.or_self, ↓reduceIte, ne_eq, not_false_eq_true, not_true_eq_false, reduceCtorEq, Nat.reduceLT, Nat.reduceEqDiff, Nat.reduceAdd, Nat.reduceMul, Nat.reduceLeDiff, Nat.reduceDiv, Nat.reduceMod, Nat.reduceSub, Nat.reduceBEq, rn_len, chs_len, chs_cnt, ops_len, ops_cnt, List.length_map, Opn.x, St.rx, St.x, List.length_append]
       try simp (disch := omega) only [wrap_in, Int.toNat_natCast, tv_rn]
       subst hk)
    | with_reducible refine Kt_i ?_
    | ((with_reducible refine vB_i ?_ ?_) <;> intro _ <;> (first | (exfalso; omega) | (try dsimp only [])))
    | ((with_reducible refine vOps_nil' ?_); refine Kr_i (by kernel_rfl) ?_; generalize hk : plain _ _ = G; simp only [lv, E3, E2, E5, rawX, deadX, true_or, or_true, true_and, and_true, decide_true, decide_false, Bool.and_self, Bool.or_self, ↓reduceIte, ne_eq, not_false_eq_true, not_true_eq_false, reduceCtorEq, Nat.reduceLT, Nat.reduceEqDiff, Nat.reduceAdd, Nat.reduceMul, Nat.reduceLeDiff, Nat.reduceDiv, Nat.reduceMod, Nat.reduceSub, Nat.reduceBEq, rn_len, chs_len, chs_cnt, ops_len, ops_cnt, List.length_map, Opn.x, St.rx, St.x, List.length_append] at hk; subst hk)
    | with_reducible refine vSeq_i ?_
    | with_reducible refine vRegion_i (by kernel_rfl) ?_
    | ((with_reducible refine vRegion_s ?_); generalize hk : Kv _ _ _ _ _ _ _ = k; simp only [lv, E1, E2, E5, ET, T, Int.toNat_natCast, Nat.div_one, Nat.mul_one, Int.reduceToNat, true_or, or_true, true_and, and_true, decide_true, decide_false, Bool.and_self, Bool.or_self, ↓reduceIte, ne_eq, not_false_eq_true, not_true_eq_false, reduceCtorEq, Nat.reduceLT, Nat.reduceEqDiff, Nat.reduceAdd, Nat.reduceMul, Nat.reduceLeDiff, Nat.reduceDiv, Nat.reduceMod, Nat.reduceSub, Nat.reduceBEq, rn_len, chs_len, chs_cnt, ops_len, ops_cnt, List.length_map, Opn.x, St.rx, St.x, List.length_append, vSpl, splT, List.getElem?_cons_zero, List.getElem?_cons_succ, List.set_cons_zero, List.set_cons_succ]; subst hk)
    | with_reducible refine Kv_i ?_
    | ((with_reducible refine imp_i ?_); intro _)
    | with_reducible refine Ks_n ?_
    | with_reducible refine Ks_r ?_
    | with_reducible refine Ks_e ?_
    | with_reducible refine Kl_e ?_
    | with_reducible refine Kx_n ?_
    | with_reducible refine Kl_r ?_
    | with_reducible refine vRet_i ?_
    | with_reducible refine vSkip_i ?_
    | with_reducible refine vExit_i ?_
    | with_reducible refine vBlock_i ?_
    | with_reducible refine blk_n ?_
    | with_reducible refine blk_r ?_
    | with_reducible refine blk_e ?_
    | with_reducible refine blk_o (by decide) ?_
    | ((with_reducible refine vCond_t ?_ ?_); (focus (simp only [lv, E1, E2, E5, ET, T, Int.toNat_natCast, Nat.div_one, Nat.mul_one, Int.reduceToNat, true_or, or_true, true_and, and_true, decide_true, decide_false, Bool.and_self, Bool.or_self, ↓reduceIte, ne_eq, not_false_eq_true, not_true_eq_false, reduceCtorEq, Nat.reduceLT, Nat.reduceEqDiff, Nat.reduceAdd, Nat.reduceMul, Nat.reduceLeDiff, Nat.reduceDiv, Nat.reduceMod, Nat.reduceSub, Nat.reduceBEq, rn_len, chs_len, chs_cnt, ops_len, ops_cnt, List.length_map, Opn.x, St.rx, St.x, List.length_append]; done)))
    | ((with_reducible refine vCond_f ?_ ?_); (focus (simp only [lv, E1, E2, E5, ET, T, Int.toNat_natCast, Nat.div_one, Nat.mul_one, Int.reduceToNat, true_or, or_true, true_and, and_true, decide_true, decide_false, Bool.and_self, Bool.or_self, ↓reduceIte, ne_eq, not_false_eq_true, not_true_eq_false, reduceCtorEq, Nat.reduceLT, Nat.reduceEqDiff, Nat.reduceAdd, Nat.reduceMul, Nat.reduceLeDiff, Nat.reduceDiv, Nat.reduceMod, Nat.reduceSub, Nat.reduceBEq, rn_len, chs_len, chs_cnt, ops_len, ops_cnt, List.length_map, Opn.x, St.rx, St.x, List.length_append]; done)))
    | ((with_reducible refine And.intro ?_ ?_); (focus (try omega)))
    | ((with_reducible apply orc_b); (focus (exact hw; done)); (all_goals (intro hb; (try simp only [decide_eq_true_eq, decide_eq_false_iff_not, Bool.not_eq_true', Bool.not_eq_false', Bool.and_eq_true, Decidable.not_not] at hb); (generalize hk : Kt _ _ _ _ _ _ _ _ _ = k; simp only [lv, E1, E2, E5, ET, T, Int.toNat_natCast, Nat.div_one, Nat.mul_one, Int.reduceToNat, true_or, or_true, true_and, and_true, decide_true, decide_false, Bool.and_self, Bool.or_self, ↓reduceIte, ne_eq, not_false_eq_true, not_true_eq_false, reduceCtorEq, Nat.reduceLT, Nat.reduceEqDiff, Nat.reduceAdd, Nat.reduceMul, Nat.reduceLeDiff, Nat.reduceDiv, Nat.reduceMod, Nat.reduceSub, Nat.reduceBEq, rn_len, chs_len, chs_cnt, ops_len, ops_cnt, List.length_map, Opn.x, St.rx, St.x, List.length_append]; (try simp (disch := omega) only [wrap_in, Int.toNat_natCast, tv_rn]); subst hk))))
    | ((with_reducible apply orc_i); (focus (exact hwr; done)); (generalize hk : Kt _ _ _ _ _ _ _ _ _ = k; simp only [lv, E1, E2, E5, ET, T, Int.toNat_natCast, Nat.div_one, Nat.mul_one, Int.reduceToNat, true_or, or_true, true_and, and_true, decide_true, decide_false, Bool.and_self, Bool.or_self, ↓reduceIte, ne_eq, not_false_eq_true, not_true_eq_false, reduceCtorEq, Nat.reduceLT, Nat.reduceEqDiff, Nat.reduceAdd, Nat.reduceMul, Nat.reduceLeDiff, Nat.reduceDiv, Nat.reduceMod, Nat.reduceSub, Nat.reduceBEq, rn_len, chs_len, chs_cnt, ops_len, ops_cnt, List.length_map, Opn.x, St.rx, St.x, List.length_append]; (try simp (disch := omega) only [wrap_in, Int.toNat_natCast, tv_rn]); subst hk))
  · refine Kf_r ?_
    simp only [Try.f5, E4, E3, E2, E5, rawX, deadX, ET, T, true_or, or_true, true_and, and_true, decide_true, decide_false, Bool.and_self, Bool.or_self, ↓reduceIte, ne_eq, not_false_eq_true, not_true_eq_false, reduceCtorEq, Nat.reduceLT, Nat.reduceEqDiff, Nat.reduceAdd, Nat.reduceMul, Nat.reduceLeDiff, Nat.reduceDiv, Nat.reduceMod, Nat.reduceSub, Nat.reduceBEq, rn_len, chs_len, chs_cnt, ops_len, ops_cnt, List.length_map, Opn.x, St.rx, St.x, List.length_append]
  rename_i ho3
  have hk := kind12 o.kind
  generalize hK : IntKind.i64.wrap (1 + bitI .and .i64 o.kind 1) = K at hk ⊢
  have ho' : Opn.ok ⟨K, o.at_, o.to_, o.text⟩ := ⟨by show o.text.length ≤ 100000; omega, ho⟩
  have ha := apply_ok hg s ⟨K, o.at_, o.to_, o.text⟩ hs ho'
  rcases hA : appF s ⟨K, o.at_, o.to_, o.text⟩ with ⟨a, e⟩
  rw [hA] at ha
  have herr : e ≠ 0 → a.text.length = 0 ∧ a.undo.length = 0 := fun h0 => by
    have := app_err (s := s) (o := ⟨K, o.at_, o.to_, o.text⟩) (by rw [hA]; exact h0)
    rw [hA] at this
    dsimp only at this
    rw [this]; exact ⟨rfl, rfl⟩
  repeat' first
    | ((with_reducible refine vOps_cons' ?_)
       generalize hk : Kt _ _ _ _ _ _ _ _ _ = k
       simp only [Try.f5, lv, E1, E2, E5, ET, T, Int.toNat_natCast, Nat.div_one, Nat.mul_one, Int.reduceToNat, true_or, or_true, true_and, and_true, decide_true, decide_false, Bool.and_self, Bool.or_self, ↓reduceIte, ne_eq, not_false_eq_true, not_true_eq_false, reduceCtorEq, Nat.reduceLT, Nat.reduceEqDiff, Nat.reduceAdd, Nat.reduceMul, Nat.reduceLeDiff, Nat.reduceDiv, Nat.reduceMod, Nat.reduceSub, Nat.reduceBEq, rn_len, chs_len, chs_cnt, ops_len, ops_cnt, List.length_map, Opn.x, St.rx, St.x, List.length_append]
       try simp (disch := omega) only [wrap_in, Int.toNat_natCast, tv_rn]
       subst hk)
    | with_reducible refine Kt_i ?_
    | ((with_reducible refine vB_i ?_ ?_) <;> intro _ <;> (first | (exfalso; omega) | (try dsimp only [])))
    | ((with_reducible refine vOps_nil' ?_); refine Kr_i (by kernel_rfl) ?_; generalize hk : plain _ _ = G; simp only [lv, E3, E2, E5, rawX, deadX, true_or, or_true, true_and, and_true, decide_true, decide_false, Bool.and_self, Bool.or_self, ↓reduceIte, ne_eq, not_false_eq_true, not_true_eq_false, reduceCtorEq, Nat.reduceLT, Nat.reduceEqDiff, Nat.reduceAdd, Nat.reduceMul, Nat.reduceLeDiff, Nat.reduceDiv, Nat.reduceMod, Nat.reduceSub, Nat.reduceBEq, rn_len, chs_len, chs_cnt, ops_len, ops_cnt, List.length_map, Opn.x, St.rx, St.x, List.length_append] at hk; subst hk)
    | with_reducible refine vSeq_i ?_
    | with_reducible refine vRegion_i (by kernel_rfl) ?_
    | ((with_reducible refine vRegion_s ?_); generalize hk : Kv _ _ _ _ _ _ _ = k; simp only [lv, E1, E2, E5, ET, T, Int.toNat_natCast, Nat.div_one, Nat.mul_one, Int.reduceToNat, true_or, or_true, true_and, and_true, decide_true, decide_false, Bool.and_self, Bool.or_self, ↓reduceIte, ne_eq, not_false_eq_true, not_true_eq_false, reduceCtorEq, Nat.reduceLT, Nat.reduceEqDiff, Nat.reduceAdd, Nat.reduceMul, Nat.reduceLeDiff, Nat.reduceDiv, Nat.reduceMod, Nat.reduceSub, Nat.reduceBEq, rn_len, chs_len, chs_cnt, ops_len, ops_cnt, List.length_map, Opn.x, St.rx, St.x, List.length_append, vSpl, splT, List.getElem?_cons_zero, List.getElem?_cons_succ, List.set_cons_zero, List.set_cons_succ]; subst hk)
    | with_reducible refine Kv_i ?_
    | ((with_reducible refine imp_i ?_); intro _)
    | with_reducible refine Ks_n ?_
    | with_reducible refine Ks_r ?_
    | with_reducible refine Ks_e ?_
    | with_reducible refine Kl_e ?_
    | with_reducible refine Kx_n ?_
    | with_reducible refine Kl_r ?_
    | with_reducible refine vRet_i ?_
    | with_reducible refine vSkip_i ?_
    | with_reducible refine vExit_i ?_
    | with_reducible refine vBlock_i ?_
    | with_reducible refine blk_n ?_
    | with_reducible refine blk_r ?_
    | with_reducible refine blk_e ?_
    | with_reducible refine blk_o (by decide) ?_
    | ((with_reducible refine vCond_t ?_ ?_); (focus (simp only [lv, E1, E2, E5, ET, T, Int.toNat_natCast, Nat.div_one, Nat.mul_one, Int.reduceToNat, true_or, or_true, true_and, and_true, decide_true, decide_false, Bool.and_self, Bool.or_self, ↓reduceIte, ne_eq, not_false_eq_true, not_true_eq_false, reduceCtorEq, Nat.reduceLT, Nat.reduceEqDiff, Nat.reduceAdd, Nat.reduceMul, Nat.reduceLeDiff, Nat.reduceDiv, Nat.reduceMod, Nat.reduceSub, Nat.reduceBEq, rn_len, chs_len, chs_cnt, ops_len, ops_cnt, List.length_map, Opn.x, St.rx, St.x, List.length_append]; done)))
    | ((with_reducible refine vCond_f ?_ ?_); (focus (simp only [lv, E1, E2, E5, ET, T, Int.toNat_natCast, Nat.div_one, Nat.mul_one, Int.reduceToNat, true_or, or_true, true_and, and_true, decide_true, decide_false, Bool.and_self, Bool.or_self, ↓reduceIte, ne_eq, not_false_eq_true, not_true_eq_false, reduceCtorEq, Nat.reduceLT, Nat.reduceEqDiff, Nat.reduceAdd, Nat.reduceMul, Nat.reduceLeDiff, Nat.reduceDiv, Nat.reduceMod, Nat.reduceSub, Nat.reduceBEq, rn_len, chs_len, chs_cnt, ops_len, ops_cnt, List.length_map, Opn.x, St.rx, St.x, List.length_append]; done)))
    | ((with_reducible refine And.intro ?_ ?_); (focus (try omega)))
    | ((with_reducible apply orc_i); (focus (exact ha; done)); (generalize hk : Kt _ _ _ _ _ _ _ _ _ = k; simp only [lv, E1, E2, E5, ET, T, Int.toNat_natCast, Nat.div_one, Nat.mul_one, Int.reduceToNat, true_or, or_true, true_and, and_true, decide_true, decide_false, Bool.and_self, Bool.or_self, ↓reduceIte, ne_eq, not_false_eq_true, not_true_eq_false, reduceCtorEq, Nat.reduceLT, Nat.reduceEqDiff, Nat.reduceAdd, Nat.reduceMul, Nat.reduceLeDiff, Nat.reduceDiv, Nat.reduceMod, Nat.reduceSub, Nat.reduceBEq, rn_len, chs_len, chs_cnt, ops_len, ops_cnt, List.length_map, Opn.x, St.rx, St.x, List.length_append]; (try simp (disch := omega) only [wrap_in, Int.toNat_natCast, tv_rn]); subst hk))
  · rename_i he
    subst he
    have hA2 : (appF s ⟨K, o.at_, o.to_, o.text⟩).2 = 0 := by rw [hA]
    have aok := app_ok hs ho' hA2
    have ra := right_app hs ho' hA2
    obtain ⟨c, hI⟩ := app_some hA2
    have hn := app_new hI (by show K ≠ 3; omega) (by show K ≠ 4; omega)
    have hgood := eff_good hs ho' hI
    rw [hA] at aok ra hn
    obtain ⟨_, n1, n2, n3, n4⟩ := hn
    dsimp only at aok ra n1 n2 n3 n4
    have hB := app_undoO ra n2
    rcases hBB : appF a undoO with ⟨b, f⟩
    have hB2 : (appF a undoO).2 = 0 := by rw [hB]
    have bok := app_ok aok (o := undoO) oNone hB2
    have rb := right_app aok (o := undoO) oNone hB2
    have hC := undo_redo ra n2 rb
    rw [hBB] at bok rb hC hB
    simp only [Prod.mk.injEq] at hB
    obtain ⟨hb1, rfl⟩ := hB
    dsimp only at bok rb hC
    have bt : b.text = s.text := by
      rw [hb1]; show (a.undo.getD (a.undo.length - 1) noCh).inv.done a.text = s.text
      rw [n3, n4]; exact (undone hgood.1).2
    have br : b.redo.length = 1 := by rw [hb1]; show (a.redo ++ _).length = 1; rw [n1]; rfl
    have cb := appCall hg aok (o := undoO) oNone hBB
    have cc := appCall hg bok (o := redoO) oNone hC
    have hins := app_insO rb
    rcases hD : appF b insO with ⟨d, g⟩
    rw [hD] at hins
    have hdl : g = 3 ∧ b.text.length = 4096 ∨ g = 0 ∧ d.redo.length = 0 := hins.imp id fun q => ⟨q.1, by have := q.2; dsimp only at this; rw [this]; rfl⟩
    have cd := appCall hg bok (o := insO) ⟨by simp [insO], by intro x hx; simp [insO] at hx; omega⟩ hD
    have sm1 : CallOk Try.prog 17 [sl (rn b.text), sl (rn s.text)] (bo true) [] true := by
      have := same_ok b.text s.text (Nat.le_trans bok.len (by omega)) (Nat.le_trans hs.len (by omega))
      rwa [decide_eq_true bt] at this
    have sm2 : CallOk Try.prog 17 [sl (rn a.text), sl (rn a.text)] (bo true) [] true := by
      have := same_ok a.text a.text (Nat.le_trans aok.len (by omega)) (Nat.le_trans aok.len (by omega))
      rwa [decide_eq_true rfl] at this
    have asm : a.small := ⟨Nat.le_trans aok.len (by omega), fun c hc => (aok.undo c hc).small, fun c hc => (aok.redo c hc).small, Nat.le_trans aok.ulen (by omega), Nat.le_trans aok.rlen (by omega)⟩
    have sm3 : CallOk Try.prog 13 [a.x, a.x] (bo true) [] true := by
      have := sameSt_ok a a asm asm
      rwa [decide_eq_true rfl] at this
    have ar : a.redo.length = 0 := by rw [n1]; rfl
    repeat' first
      | ((with_reducible refine vOps_cons' ?_)
         generalize hk : Kt _ _ _ _ _ _ _ _ _ = k
         simp only [Try.f5, lv, E1, E2, E5, ET, T, Int.toNat_natCast, Nat.div_one, Nat.mul_one, Int.reduceToNat, true_or, or_true, true_and, and_true, decide_true, decide_false, Bool.and_self, Bool.or_self, ↓reduceIte, ne_eq, not_false_eq_true, not_true_eq_false, reduceCtorEq, Nat.reduceLT, Nat.reduceEqDiff, Nat.reduceAdd, Nat.reduceMul, Nat.reduceLeDiff, Nat.reduceDiv, Nat.reduceMod, Nat.reduceSub, Nat.reduceBEq, rn_len, chs_len, chs_cnt, ops_len, ops_cnt, List.length_map, Opn.x, St.rx, St.x, List.length_append]
         try simp (disch := omega) only [wrap_in, Int.toNat_natCast, tv_rn]
         subst hk)
      | with_reducible refine Kt_i ?_
      | ((with_reducible refine vB_i ?_ ?_) <;> intro _ <;> (first | (exfalso; omega) | (try dsimp only [])))
      | ((with_reducible refine vOps_nil' ?_); refine Kr_i (by kernel_rfl) ?_; generalize hk : plain _ _ = G; simp only [lv, E3, E2, E5, rawX, deadX, true_or, or_true, true_and, and_true, decide_true, decide_false, Bool.and_self, Bool.or_self, ↓reduceIte, ne_eq, not_false_eq_true, not_true_eq_false, reduceCtorEq, Nat.reduceLT, Nat.reduceEqDiff, Nat.reduceAdd, Nat.reduceMul, Nat.reduceLeDiff, Nat.reduceDiv, Nat.reduceMod, Nat.reduceSub, Nat.reduceBEq, rn_len, chs_len, chs_cnt, ops_len, ops_cnt, List.length_map, Opn.x, St.rx, St.x, List.length_append] at hk; subst hk)
      | with_reducible refine vSeq_i ?_
      | with_reducible refine vRegion_i (by kernel_rfl) ?_
      | ((with_reducible refine vRegion_s ?_); generalize hk : Kv _ _ _ _ _ _ _ = k; simp only [lv, E1, E2, E5, ET, T, Int.toNat_natCast, Nat.div_one, Nat.mul_one, Int.reduceToNat, true_or, or_true, true_and, and_true, decide_true, decide_false, Bool.and_self, Bool.or_self, ↓reduceIte, ne_eq, not_false_eq_true, not_true_eq_false, reduceCtorEq, Nat.reduceLT, Nat.reduceEqDiff, Nat.reduceAdd, Nat.reduceMul, Nat.reduceLeDiff, Nat.reduceDiv, Nat.reduceMod, Nat.reduceSub, Nat.reduceBEq, rn_len, chs_len, chs_cnt, ops_len, ops_cnt, List.length_map, Opn.x, St.rx, St.x, List.length_append, vSpl, splT, List.getElem?_cons_zero, List.getElem?_cons_succ, List.set_cons_zero, List.set_cons_succ]; subst hk)
      | with_reducible refine Kv_i ?_
      | ((with_reducible refine imp_i ?_); intro _)
      | with_reducible refine Ks_n ?_
      | with_reducible refine Ks_r ?_
      | with_reducible refine Ks_e ?_
      | with_reducible refine Kl_e ?_
      | with_reducible refine Kx_n ?_
      | with_reducible refine Kl_r ?_
      | with_reducible refine vRet_i ?_
      | with_reducible refine vSkip_i ?_
      | with_reducible refine vExit_i ?_
      | with_reducible refine vBlock_i ?_
      | with_reducible refine blk_n ?_
      | with_reducible refine blk_r ?_
      | with_reducible refine blk_e ?_
      | with_reducible refine blk_o (by decide) ?_
      | ((with_reducible refine vCond_t ?_ ?_); (focus (simp only [lv, E1, E2, E5, ET, T, Int.toNat_natCast, Nat.div_one, Nat.mul_one, Int.reduceToNat, true_or, or_true, true_and, and_true, decide_true, decide_false, Bool.and_self, Bool.or_self, ↓reduceIte, ne_eq, not_false_eq_true, not_true_eq_false, reduceCtorEq, Nat.reduceLT, Nat.reduceEqDiff, Nat.reduceAdd, Nat.reduceMul, Nat.reduceLeDiff, Nat.reduceDiv, Nat.reduceMod, Nat.reduceSub, Nat.reduceBEq, rn_len, chs_len, chs_cnt, ops_len, ops_cnt, List.length_map, Opn.x, St.rx, St.x, List.length_append]; done)))
      | ((with_reducible refine vCond_f ?_ ?_); (focus (simp only [lv, E1, E2, E5, ET, T, Int.toNat_natCast, Nat.div_one, Nat.mul_one, Int.reduceToNat, true_or, or_true, true_and, and_true, decide_true, decide_false, Bool.and_self, Bool.or_self, ↓reduceIte, ne_eq, not_false_eq_true, not_true_eq_false, reduceCtorEq, Nat.reduceLT, Nat.reduceEqDiff, Nat.reduceAdd, Nat.reduceMul, Nat.reduceLeDiff, Nat.reduceDiv, Nat.reduceMod, Nat.reduceSub, Nat.reduceBEq, rn_len, chs_len, chs_cnt, ops_len, ops_cnt, List.length_map, Opn.x, St.rx, St.x, List.length_append]; done)))
      | ((with_reducible refine And.intro ?_ ?_); (focus (try omega)))
      | ((with_reducible apply orc_i); (focus (exact cb; done)); (generalize hk : Kt _ _ _ _ _ _ _ _ _ = k; simp only [lv, E1, E2, E5, ET, T, Int.toNat_natCast, Nat.div_one, Nat.mul_one, Int.reduceToNat, true_or, or_true, true_and, and_true, decide_true, decide_false, Bool.and_self, Bool.or_self, ↓reduceIte, ne_eq, not_false_eq_true, not_true_eq_false, reduceCtorEq, Nat.reduceLT, Nat.reduceEqDiff, Nat.reduceAdd, Nat.reduceMul, Nat.reduceLeDiff, Nat.reduceDiv, Nat.reduceMod, Nat.reduceSub, Nat.reduceBEq, rn_len, chs_len, chs_cnt, ops_len, ops_cnt, List.length_map, Opn.x, St.rx, St.x, List.length_append]; (try simp (disch := omega) only [wrap_in, Int.toNat_natCast, tv_rn]); subst hk))
      | ((with_reducible apply orc_i); (focus (exact cc; done)); (generalize hk : Kt _ _ _ _ _ _ _ _ _ = k; simp only [lv, E1, E2, E5, ET, T, Int.toNat_natCast, Nat.div_one, Nat.mul_one, Int.reduceToNat, true_or, or_true, true_and, and_true, decide_true, decide_false, Bool.and_self, Bool.or_self, ↓reduceIte, ne_eq, not_false_eq_true, not_true_eq_false, reduceCtorEq, Nat.reduceLT, Nat.reduceEqDiff, Nat.reduceAdd, Nat.reduceMul, Nat.reduceLeDiff, Nat.reduceDiv, Nat.reduceMod, Nat.reduceSub, Nat.reduceBEq, rn_len, chs_len, chs_cnt, ops_len, ops_cnt, List.length_map, Opn.x, St.rx, St.x, List.length_append]; (try simp (disch := omega) only [wrap_in, Int.toNat_natCast, tv_rn]); subst hk))
      | ((with_reducible apply orc_i); (focus (exact cd; done)); (generalize hk : Kt _ _ _ _ _ _ _ _ _ = k; simp only [lv, E1, E2, E5, ET, T, Int.toNat_natCast, Nat.div_one, Nat.mul_one, Int.reduceToNat, true_or, or_true, true_and, and_true, decide_true, decide_false, Bool.and_self, Bool.or_self, ↓reduceIte, ne_eq, not_false_eq_true, not_true_eq_false, reduceCtorEq, Nat.reduceLT, Nat.reduceEqDiff, Nat.reduceAdd, Nat.reduceMul, Nat.reduceLeDiff, Nat.reduceDiv, Nat.reduceMod, Nat.reduceSub, Nat.reduceBEq, rn_len, chs_len, chs_cnt, ops_len, ops_cnt, List.length_map, Opn.x, St.rx, St.x, List.length_append]; (try simp (disch := omega) only [wrap_in, Int.toNat_natCast, tv_rn]); subst hk))
      | ((with_reducible apply orc_i); (focus (exact sm1; done)); (generalize hk : Kt _ _ _ _ _ _ _ _ _ = k; simp only [lv, E1, E2, E5, ET, T, Int.toNat_natCast, Nat.div_one, Nat.mul_one, Int.reduceToNat, true_or, or_true, true_and, and_true, decide_true, decide_false, Bool.and_self, Bool.or_self, ↓reduceIte, ne_eq, not_false_eq_true, not_true_eq_false, reduceCtorEq, Nat.reduceLT, Nat.reduceEqDiff, Nat.reduceAdd, Nat.reduceMul, Nat.reduceLeDiff, Nat.reduceDiv, Nat.reduceMod, Nat.reduceSub, Nat.reduceBEq, rn_len, chs_len, chs_cnt, ops_len, ops_cnt, List.length_map, Opn.x, St.rx, St.x, List.length_append]; (try simp (disch := omega) only [wrap_in, Int.toNat_natCast, tv_rn]); subst hk))
      | ((with_reducible apply orc_i); (focus (exact sm2; done)); (generalize hk : Kt _ _ _ _ _ _ _ _ _ = k; simp only [lv, E1, E2, E5, ET, T, Int.toNat_natCast, Nat.div_one, Nat.mul_one, Int.reduceToNat, true_or, or_true, true_and, and_true, decide_true, decide_false, Bool.and_self, Bool.or_self, ↓reduceIte, ne_eq, not_false_eq_true, not_true_eq_false, reduceCtorEq, Nat.reduceLT, Nat.reduceEqDiff, Nat.reduceAdd, Nat.reduceMul, Nat.reduceLeDiff, Nat.reduceDiv, Nat.reduceMod, Nat.reduceSub, Nat.reduceBEq, rn_len, chs_len, chs_cnt, ops_len, ops_cnt, List.length_map, Opn.x, St.rx, St.x, List.length_append]; (try simp (disch := omega) only [wrap_in, Int.toNat_natCast, tv_rn]); subst hk))
      | ((with_reducible apply orc_i); (focus (exact sm3; done)); (generalize hk : Kt _ _ _ _ _ _ _ _ _ = k; simp only [lv, E1, E2, E5, ET, T, Int.toNat_natCast, Nat.div_one, Nat.mul_one, Int.reduceToNat, true_or, or_true, true_and, and_true, decide_true, decide_false, Bool.and_self, Bool.or_self, ↓reduceIte, ne_eq, not_false_eq_true, not_true_eq_false, reduceCtorEq, Nat.reduceLT, Nat.reduceEqDiff, Nat.reduceAdd, Nat.reduceMul, Nat.reduceLeDiff, Nat.reduceDiv, Nat.reduceMod, Nat.reduceSub, Nat.reduceBEq, rn_len, chs_len, chs_cnt, ops_len, ops_cnt, List.length_map, Opn.x, St.rx, St.x, List.length_append]; (try simp (disch := omega) only [wrap_in, Int.toNat_natCast, tv_rn]); subst hk))
    all_goals first
      | (rename_i hx; exact absurd trivial hx)
      | (refine Kf_r ?_; simp only [Try.f5, E4, E3, E2, E5, rawX, deadX, ET, T, true_or, or_true, true_and, and_true, decide_true, decide_false, Bool.and_self, Bool.or_self, ↓reduceIte, ne_eq, not_false_eq_true, not_true_eq_false, reduceCtorEq, Nat.reduceLT, Nat.reduceEqDiff, Nat.reduceAdd, Nat.reduceMul, Nat.reduceLeDiff, Nat.reduceDiv, Nat.reduceMod, Nat.reduceSub, Nat.reduceBEq, rn_len, chs_len, chs_cnt, ops_len, ops_cnt, List.length_map, Opn.x, St.rx, St.x, List.length_append]; done)
      | (exfalso; omega)
  all_goals first
    | (rename_i hx; exact absurd trivial hx)
    | (refine Kf_r ?_; simp only [Try.f5, E4, E3, E2, E5, rawX, deadX, ET, T, true_or, or_true, true_and, and_true, decide_true, decide_false, Bool.and_self, Bool.or_self, ↓reduceIte, ne_eq, not_false_eq_true, not_true_eq_false, reduceCtorEq, Nat.reduceLT, Nat.reduceEqDiff, Nat.reduceAdd, Nat.reduceMul, Nat.reduceLeDiff, Nat.reduceDiv, Nat.reduceMod, Nat.reduceSub, Nat.reduceBEq, rn_len, chs_len, chs_cnt, ops_len, ops_cnt, List.length_map, Opn.x, St.rx, St.x, List.length_append]; done)
    | (exfalso; omega)
    | (cases hb; done)
end Go.Proofs.YtmcicjhmgfpihaaG
