/- YtncabdcaamkhiaaZTLawGBracketNest: a part of the proof, joined of its texts. -/
import Derived.Test.YtncabdcaamkhiaaZ16
namespace Go.Proofs.YtncabdcaamkhiaaG
open Go Go.RowKit Go.Proofs
set_option linter.unusedSimpArgs false
set_option linter.unusedVariables false
theorem rn_cnt10 (l : List Int) : cnt 1 (rn l) = l.length := by unfold cnt; rw [rn_len]; omega
end Go.Proofs.YtncabdcaamkhiaaG
/- L10: layer 10's laws at what came in: texts of numbers, lists of numbers. -/
namespace Go.Proofs.YtncabdcaamkhiaaG
open Go Go.RowKit Go.Proofs Go.Proofs.Ytncabdcaamkhiaa
set_option linter.unusedVariables false
set_option linter.unusedSimpArgs false
theorem typ_rn10 {n : Nat} {x : SV} (h : Typ T n 22 [x]) : ∃ l : List Int, x = .sl 1 (rn l) ∧ l.length ≤ n := by
  obtain ⟨l, e, _, h2⟩ := h.ints (by rfl) (by rfl)
  simp only [List.cons.injEq, and_true] at e
  exact ⟨l, e, h2⟩
theorem typ_nt10 {n : Nat} {x : SV} (h : Typ T n 23 [x]) : ∃ l : List Int, x = .sl 1 (nts l) ∧ l.length ≤ n := by
  obtain ⟨l, e, _, h2⟩ := h.ints (by rfl) (by rfl)
  simp only [List.cons.injEq, and_true] at e
  exact ⟨l, e, h2⟩
end Go.Proofs.YtncabdcaamkhiaaG
/- N12: pairs nest (pure). -/
namespace Go.Proofs.YtncabdcaamkhiaaG
open Go Go.RowKit Go.Proofs
set_option linter.unusedSimpArgs false
set_option linter.unusedVariables false
structure Wnest (l t : List Int) (z : WS) : Prop where
  inc : z.1.Pairwise (· < ·)
  kW : ∀ j ∈ z.1, kindF l t j = 1
  kO : ∀ p ∈ z.2, kindF l t p.1.toNat = 1 ∧ kindF l t p.2.toNat = 2 ∧ endsF l p.1.toNat p.2.toNat = true
  nst : ∀ p ∈ z.2, ∀ q ∈ z.2, p ≠ q → q.2 ≠ p.2 ∧ ¬ (q.1 < p.1 ∧ p.1 < q.2 ∧ q.2 < p.2)
  wo : ∀ (j : Nat), j ∈ z.1 → ∀ p ∈ z.2, ¬ (p.1 < (j : Int) ∧ (j : Int) < p.2)
theorem take_lt {W : List Nat} (h : W.Pairwise (· < ·)) {k : Nat} (hk : k < W.length) : ∀ j ∈ W.take k, j < W.getD k 0 := by
  intro j hj
  rw [getD_el hk]
  obtain ⟨m, hm, rfl⟩ := List.mem_iff_getElem.1 hj
  simp only [List.length_take] at hm
  rw [List.getElem_take]
  exact List.pairwise_iff_getElem.1 h m k (by omega) hk (by omega)
theorem stW_nest (l t : List Int) : ∀ i, Wnest l t (stW l t i).1
  | 0 => ⟨by simp [stW], by simp [stW], by simp [stW], by simp [stW], by simp [stW]⟩
  | i + 1 => by
    have ih := stW_nest l t i
    have hok := stW_ok l t i
    unfold stW
    split
    · exact ih
    · split
      · rename_i hk1
        split
        · exact ih
        · refine ⟨?_, fun j hj => ?_, ih.kO, ih.nst, fun j hj p hp => ?_⟩
          · rw [List.pairwise_append]
            refine ⟨ih.inc, List.pairwise_singleton _ _, fun a ha b hb => ?_⟩
            simp only [List.mem_singleton] at hb
            have := hok.lt a ha; omega
          · simp only [List.mem_append, List.mem_singleton] at hj
            rcases hj with hj | rfl
            · exact ih.kW j hj
            · exact hk1
          · simp only [List.mem_append, List.mem_singleton] at hj
            rcases hj with hj | rfl
            · exact ih.wo j hj p hp
            · have := hok.pr p hp; omega
      · split
        · rename_i hk2
          split
          · exact ih
          · rename_i k hk
            have hk' := (fnd_lt hk).1
            have hm := getD_mem hk'
            have hwl := hok.lt _ hm
            have htl := take_lt ih.inc hk'
            refine ⟨List.Pairwise.sublist (List.take_sublist _ _) ih.inc, fun j hj => ih.kW j (List.mem_of_mem_take hj), fun p hp => ?_, fun p hp q hq hne => ?_, fun j hj p hp => ?_⟩
            · simp only [List.mem_append, List.mem_singleton] at hp
              rcases hp with hp | rfl
              · exact ih.kO p hp
              · simp only [Int.toNat_natCast]
                exact ⟨ih.kW _ hm, hk2, (fnd_lt hk).2⟩
            · simp only [List.mem_append, List.mem_singleton] at hp hq
              rcases hp with hp | rfl <;> rcases hq with hq | rfl
              · exact ih.nst p hp q hq hne
              · have h1 := hok.pr p hp
                simp only []; omega
              · have h1 := hok.pr q hq
                have h2 := ih.wo _ hm q hq
                simp only []; omega
              · exact absurd rfl hne
            · simp only [List.mem_append, List.mem_singleton] at hp
              rcases hp with hp | rfl
              · exact ih.wo j (List.mem_of_mem_take hj) p hp
              · have := htl j hj
                simp only []; omega
        · exact ih
theorem prsF_mem' {l t : List Int} {p : Int × Int} : p ∈ prsF l t ↔ p ∈ (stW l t l.length).1.2 := by
  have hok := stW_ok l t l.length
  unfold prsF
  exact rising_mem (List.nodup_append.1 hok.nd).2.1 (fun p hp => by have := hok.pr p hp; omega) p
theorem kind_one {l t : List Int} {k : Nat} (h : kindF l t k = 1) : t.getD k 0 = 14 ∧ (brF (l.getD k 0)).1 = 1 := by
  unfold kindF at h; split at h
  · cases h
  · rename_i q; exact ⟨Classical.byContradiction q, h⟩
theorem kind_two {l t : List Int} {k : Nat} (h : kindF l t k = 2) : t.getD k 0 = 14 ∧ (brF (l.getD k 0)).1 = 2 := by
  unfold kindF at h; split at h
  · cases h
  · rename_i q; exact ⟨Classical.byContradiction q, h⟩
/-- What every pair is. -/
theorem prsF_pair {l t : List Int} {p : Int × Int} (h : p ∈ prsF l t) : t.getD p.1.toNat 0 = 14 ∧ t.getD p.2.toNat 0 = 14 ∧ (brF (l.getD p.1.toNat 0)).1 = 1 ∧ (brF (l.getD p.2.toNat 0)).1 = 2 ∧ canF (brF (l.getD p.1.toNat 0)).2 = canF (l.getD p.2.toNat 0) := by
  have hn := (stW_nest l t l.length).kO p (prsF_mem'.1 h)
  exact ⟨(kind_one hn.1).1, (kind_two hn.2.1).1, (kind_one hn.1).2, (kind_two hn.2.1).2, of_decide_eq_true hn.2.2⟩
/-- Two pairs nest or lie apart. -/
theorem prsF_nest {l t : List Int} {j k : Nat} (hj : j < k) (hk : k < (prsF l t).length) :
    ((prsF l t).getD j (0, 0)).1 < ((prsF l t).getD k (0, 0)).1 ∧ ((prsF l t).getD j (0, 0)).2 ≠ ((prsF l t).getD k (0, 0)).2 ∧
    ¬ (((prsF l t).getD k (0, 0)).1 < ((prsF l t).getD j (0, 0)).2 ∧ ((prsF l t).getD j (0, 0)).2 < ((prsF l t).getD k (0, 0)).2) := by
  have hs := rising_sorted l.length (stW l t l.length).1.2
  have hlt := List.pairwise_iff_getElem.1 hs j k (by exact Nat.lt_trans hj hk) hk hj
  have e1 : (prsF l t).getD j (0, 0) = (prsF l t)[j]'(Nat.lt_trans hj hk) := by
    rw [List.getD_eq_getElem?_getD, List.getElem?_eq_getElem (Nat.lt_trans hj hk)]; rfl
  have e2 : (prsF l t).getD k (0, 0) = (prsF l t)[k]'hk := by
    rw [List.getD_eq_getElem?_getD, List.getElem?_eq_getElem hk]; rfl
  have m1 : (prsF l t)[j]'(Nat.lt_trans hj hk) ∈ prsF l t := List.getElem_mem _
  have m2 : (prsF l t)[k]'hk ∈ prsF l t := List.getElem_mem _
  have hlt' : ((prsF l t)[j]'(Nat.lt_trans hj hk)).1 < ((prsF l t)[k]'hk).1 := hlt
  have hne : (prsF l t)[k]'hk ≠ (prsF l t)[j]'(Nat.lt_trans hj hk) := fun e => by rw [e] at hlt'; omega
  have hx := (stW_nest l t l.length).nst _ (prsF_mem'.1 m2) _ (prsF_mem'.1 m1) hne
  rw [e1, e2]
  exact ⟨hlt', hx.1, fun q => hx.2 ⟨hlt', q.1, q.2⟩⟩
end Go.Proofs.YtncabdcaamkhiaaG
namespace Go.Proofs.YtncabdcaamkhiaaG
open Go Go.RowKit Go.Proofs
set_option linter.unusedSimpArgs false
set_option linter.unusedVariables false
theorem prs_take : ∀ (l : List (Int × Int)) (m : Nat), (prs l).take (m * 2) = prs (l.take m)
  | _, 0 => by rw [Nat.zero_mul, List.take_zero, List.take_zero]; rfl
  | [], m + 1 => by rw [List.take_nil]; exact List.take_nil
  | a :: l, m + 1 => by
    have := prs_take l m
    rw [show (m + 1) * 2 = m * 2 + 1 + 1 by omega]
    simpa only [prs, List.flatMap_cons, List.cons_append, List.nil_append, List.take_succ_cons, List.cons.injEq, true_and] using this
theorem cut_prs (P : List (Int × Int)) (k : Nat) : cutSV 2 (prs P) 0 (k : Int) = prs (P.take k) := by
  rw [← prs_take]; simp [cutSV]
set_option maxRecDepth 10000 in
set_option maxHeartbeats 4000000 in
theorem bracketNest_law (l t : List Int) (hl : l.length ≤ 2000000) (ht : t.length ≤ 2000000) : CallOk Try.prog 5 [sl (rn l), sl (nts t)] (bo true) [] true := by
  have q6 := works_ok
  refine fn_ok' T_ok (orc_ok _) mixed Try.func5 rfl (by kernel_rfl) (lv [[0, 1], [0, 1, 16], [4], [0, 1, 5, 6], [0, 1, 5, 24], [4], [0, 1, 5, 37, 1000005], [4], [0, 1, 5, 38, 39, 40], [0, 1, 5, 38, 39, 40, 41], [0, 1, 5, 7, 8, 38, 39, 40], [0, 1, 5, 7, 8, 38, 39, 40, 77], [4], [0, 1, 5, 7, 8, 9, 10, 38, 39, 40], [0, 1, 5, 7, 8, 9, 10, 11, 38, 39, 40], [0, 1, 5, 7, 8, 38, 39, 40, 112], [4], [0, 1, 5, 8, 38, 39, 40, 115, 116, 117], [0, 1, 5, 8, 38, 39, 40, 115, 116, 117, 118], [0, 1, 5, 8, 14, 38, 39, 40, 115, 116, 117], [0, 1, 5, 8, 38, 39, 40, 115, 116, 117, 146], [4], [0, 1, 5, 8, 38, 39, 40, 115, 116, 117], [0, 1, 5, 38, 39, 40], [4]]) 149 rfl (by simp) rfl (by simp [X.all, PX.all, TV.rawR, SV.isRaw]) ?_
  simp only [argsG, Nat.zero_add, Nat.reduceAdd]
  by_cases h : t.length = l.length
  · have q1 := pairs_ok l t h hl
    have hPl := prsF_len l t
    repeat' first
      | ((first
          | ((with_reducible refine vR_cons (by decide) ?_); generalize hk : KtR _ _ _ _ _ _ _ _ _ _ = k)
          | ((first
          | with_reducible refine vOps_cons' ?_
          | ((with_reducible apply orc_i); (focus (exact q1; done)))
          | ((with_reducible apply orc_i); (focus (exact q6; done)))) <;> generalize hk : Kt _ _ _ _ _ _ _ _ _ = k)) <;> (simp only [Try.f5, lv, E1, E2, E5, ET, T, orc_mv, noO_mv, mvB, orc_bx, noO_bx, bxB, orc_sx, noO_sx, sxB, fwd, fwds, inv, mOk, Int.toNat_natCast, Nat.div_one, Nat.mul_one, Int.reduceToNat, SB, List.not_mem_nil, ↓reduceIte, ne_eq, reduceCtorEq, Nat.reduceLT, Nat.reduceEqDiff, Nat.reduceAdd, Nat.reduceMul, Nat.reduceLeDiff, Nat.reduceDiv, Nat.reduceMod, Nat.reduceSub, Nat.reduceBEq, List.length_map, rn_len, nts_len, prs_len, prs_cnt, nts_cnt, rn_cnt10, prs_take, cut_prs, cnt_two, List.length_take, List.length_set, Int.add_sub_cancel]; (try simp (disch := omega) only [wrap_in, Int.toNat_natCast, tv_rn, tv_nts, tv_prs0, tv_prs1]); subst hk))
      | with_reducible first | refine Kt_p ?_ | refine Kt_i (by kernel_rfl) ?_ | refine Kr_f (by kernel_rfl) ?_
      | (with_reducible refine Kr_t ?_; simp only [List.length_append, List.length_cons, List.length_nil, Nat.reduceAdd, Nat.reduceSub, List.drop_succ_cons, List.drop_zero])
      | with_reducible first | refine vR_nil ?_ | refine KtR_i (by kernel_rfl) ?_ | refine KrR_i (by kernel_rfl) ?_ | refine vR_skip (by decide) ?_
      | ((with_reducible refine vB_i ?_ ?_) <;> intro _ <;> (first | (exfalso; omega) | (exact absurd trivial ‹¬True›) | (try dsimp only [])))
      | ((with_reducible refine vOps_nil' ?_); refine Kr_i (by kernel_rfl) ?_; generalize hk : plain _ _ = G; simp only [lv, E3, E2, E5, rawX, deadX, SB, List.not_mem_nil, ↓reduceIte, ne_eq, reduceCtorEq, Nat.reduceLT, Nat.reduceEqDiff, Nat.reduceAdd, Nat.reduceMul, Nat.reduceLeDiff, Nat.reduceDiv, Nat.reduceMod, Nat.reduceSub, Nat.reduceBEq, List.length_map, rn_len, nts_len, prs_len, prs_cnt, nts_cnt, rn_cnt10, prs_take, cut_prs, cnt_two, List.length_take, List.length_set, Int.add_sub_cancel] at hk; subst hk)
      | with_reducible refine vSeq_i ?_
      | with_reducible first | refine vRegion_i (by kernel_rfl) ?_ | refine Kv_i ?_
      | ((with_reducible apply vStrK_i); (focus (rfl; done)))
      | ((with_reducible refine imp_i ?_); intro _)
      | with_reducible first | refine Ks_n ?_ | refine Ks_r ?_ | refine Ks_e ?_ | refine Kl_e ?_ | refine Kx_n ?_ | refine Kl_r ?_ | refine vRet_i ?_ | refine vSkip_i ?_ | refine vExit_i ?_ | refine vBlock_i ?_ | refine Ks_p ?_ | refine Kl_p ?_ | refine blk_p ?_ | exact Kb_p | refine vGoto_i ?_ | refine vLabel_i ?_ | refine Ks_g ?_ | refine Kl_g ?_ | refine blk_g ?_ | refine jmp_g ?_ | refine jmp_n ?_ | refine jmp_r ?_ | refine nog_n ?_ | refine nog_r ?_ | refine blk_n ?_ | refine blk_r ?_ | refine blk_e ?_ | refine blk_o (by decide) ?_ | refine cp_t ?_ | refine cp_f ?_
      | ((with_reducible apply vCond_x); (focus (simp only [lv, E1, E2, E5, ET, T, orc_mv, noO_mv, mvB, orc_bx, noO_bx, bxB, orc_sx, noO_sx, sxB, fwd, fwds, inv, mOk, Int.toNat_natCast, Nat.div_one, Nat.mul_one, Int.reduceToNat, SB, List.not_mem_nil, ↓reduceIte, ne_eq, reduceCtorEq, Nat.reduceLT, Nat.reduceEqDiff, Nat.reduceAdd, Nat.reduceMul, Nat.reduceLeDiff, Nat.reduceDiv, Nat.reduceMod, Nat.reduceSub, Nat.reduceBEq, List.length_map, rn_len, nts_len, prs_len, prs_cnt, nts_cnt, rn_cnt10, prs_take, cut_prs, cnt_two, List.length_take, List.length_set, Int.add_sub_cancel]; with_reducible first | exact Eq.refl (bo true) | exact Eq.refl (bo false))))
      | ((with_reducible refine And.intro ?_ ?_); (focus (try omega)))
    all_goals try (exfalso; omega)
    · refine Kf_r ?_
      simp only [Try.f5, E4, E3, E2, E5, rawX, deadX, ET, T, SB, List.not_mem_nil, ↓reduceIte, ne_eq, reduceCtorEq, Nat.reduceLT, Nat.reduceEqDiff, Nat.reduceAdd, Nat.reduceMul, Nat.reduceLeDiff, Nat.reduceDiv, Nat.reduceMod, Nat.reduceSub, Nat.reduceBEq, List.length_map, rn_len, nts_len, prs_len, prs_cnt, nts_cnt, rn_cnt10, prs_take, cut_prs, cnt_two, List.length_take, List.length_set, Int.add_sub_cancel]
    · rename_i q7
      obtain ⟨P, hP⟩ : ∃ P, P = prsF l t := ⟨_, rfl⟩
      rw [← hP] at hPl q7 ⊢
      refine vLoop_s (fun k : Nat => [(.t 0, .t (sl (rn l))), (.t 1, .t (sl (nts t))), (.t 5, .t (sln 2 (prs P))), (.t 38, .t (sln 2 (prs P))), (.t 39, .t (i64 P.length)), (.t 40, .t (i64 k))]) (fun k => k ≤ P.length) (fun k => P.length - k) 0 (by omega) rfl ?_
      rintro k hk
      by_cases hkl : k < P.length
      · have hmem : P.getD k (0, 0) ∈ prsF l t := by rw [List.getD_eq_getElem?_getD, List.getElem?_eq_getElem hkl, ← hP]; exact List.getElem_mem hkl
        have hpm := prsF_mem hmem
        have hpp := prsF_pair hmem
        have hnest : ∀ j, j < k → (P.getD j (0, 0)).1 < (P.getD k (0, 0)).1 ∧ (P.getD j (0, 0)).2 ≠ (P.getD k (0, 0)).2 ∧ ¬ ((P.getD k (0, 0)).1 < (P.getD j (0, 0)).2 ∧ (P.getD j (0, 0)).2 < (P.getD k (0, 0)).2) := fun j hj => by
          have := prsF_nest (l := l) (t := t) hj (hP ▸ hkl); rw [hP]; exact this
        have hge : ∀ j, j < k → (P.take k).getD j (0, 0) = P.getD j (0, 0) := fun j hj => by
          rw [List.getD_eq_getElem?_getD, List.getD_eq_getElem?_getD, List.getElem?_take, if_pos hj]
        obtain ⟨a, ha⟩ : ∃ a : Nat, (P.getD k (0, 0)).1 = (a : Int) := ⟨(P.getD k (0, 0)).1.toNat, by omega⟩
        obtain ⟨b, hb⟩ : ∃ b : Nat, (P.getD k (0, 0)).2 = (b : Int) := ⟨(P.getD k (0, 0)).2.toNat, by omega⟩
        rw [ha, hb] at hpm
        simp only [ha, hb, Int.toNat_natCast] at hpp hnest
        obtain ⟨p1, p2, p3, p4, p5⟩ := hpp
        repeat' first
          | ((first
              | ((with_reducible refine vR_cons (by decide) ?_); generalize hk : KtR _ _ _ _ _ _ _ _ _ _ = k)
              | ((first
              | with_reducible refine vOps_cons' ?_
              | ((with_reducible apply orc_i); (focus ((simp only [ha, hb, Int.toNat_natCast]; exact bracket_ok _); done)))
              | ((with_reducible apply orc_i); (focus (((try simp only [ha, hb, Int.toNat_natCast]); exact canon_ok _); done)))) <;> generalize hk : Kt _ _ _ _ _ _ _ _ _ = k)) <;> (simp only [Try.f5, lv, E1, E2, E5, ET, T, orc_mv, noO_mv, mvB, orc_bx, noO_bx, bxB, orc_sx, noO_sx, sxB, fwd, fwds, inv, mOk, Int.toNat_natCast, Nat.div_one, Nat.mul_one, Int.reduceToNat, SB, List.not_mem_nil, ↓reduceIte, ne_eq, reduceCtorEq, Nat.reduceLT, Nat.reduceEqDiff, Nat.reduceAdd, Nat.reduceMul, Nat.reduceLeDiff, Nat.reduceDiv, Nat.reduceMod, Nat.reduceSub, Nat.reduceBEq, List.length_map, rn_len, nts_len, prs_len, prs_cnt, nts_cnt, rn_cnt10, prs_take, cut_prs, cnt_two, List.length_take, List.length_set, Int.add_sub_cancel]; (try simp (disch := omega) only [wrap_in, Int.toNat_natCast, tv_rn, tv_nts, tv_prs0, tv_prs1]); subst hk))
          | with_reducible first | refine Kt_p ?_ | refine Kt_i (by kernel_rfl) ?_ | refine Kr_f (by kernel_rfl) ?_
          | (with_reducible refine Kr_t ?_; simp only [List.length_append, List.length_cons, List.length_nil, Nat.reduceAdd, Nat.reduceSub, List.drop_succ_cons, List.drop_zero])
          | with_reducible first | refine vR_nil ?_ | refine KtR_i (by kernel_rfl) ?_ | refine KrR_i (by kernel_rfl) ?_ | refine vR_skip (by decide) ?_
          | ((with_reducible refine vB_i ?_ ?_) <;> intro _ <;> (first | (exfalso; omega) | (exact absurd trivial ‹¬True›) | (try dsimp only [])))
          | ((with_reducible refine vOps_nil' ?_); refine Kr_i (by kernel_rfl) ?_; generalize hk : plain _ _ = G; simp only [lv, E3, E2, E5, rawX, deadX, SB, List.not_mem_nil, ↓reduceIte, ne_eq, reduceCtorEq, Nat.reduceLT, Nat.reduceEqDiff, Nat.reduceAdd, Nat.reduceMul, Nat.reduceLeDiff, Nat.reduceDiv, Nat.reduceMod, Nat.reduceSub, Nat.reduceBEq, List.length_map, rn_len, nts_len, prs_len, prs_cnt, nts_cnt, rn_cnt10, prs_take, cut_prs, cnt_two, List.length_take, List.length_set, Int.add_sub_cancel] at hk; subst hk)
          | with_reducible refine vSeq_i ?_
          | with_reducible first | refine vRegion_i (by kernel_rfl) ?_ | refine Kv_i ?_
          | ((with_reducible apply vStrK_i); (focus (rfl; done)))
          | ((with_reducible refine imp_i ?_); intro _)
          | with_reducible first | refine Ks_n ?_ | refine Ks_r ?_ | refine Ks_e ?_ | refine Kl_e ?_ | refine Kx_n ?_ | refine Kl_r ?_ | refine vRet_i ?_ | refine vSkip_i ?_ | refine vExit_i ?_ | refine vBlock_i ?_ | refine Ks_p ?_ | refine Kl_p ?_ | refine blk_p ?_ | exact Kb_p | refine vGoto_i ?_ | refine vLabel_i ?_ | refine Ks_g ?_ | refine Kl_g ?_ | refine blk_g ?_ | refine jmp_g ?_ | refine jmp_n ?_ | refine jmp_r ?_ | refine nog_n ?_ | refine nog_r ?_ | refine blk_n ?_ | refine blk_r ?_ | refine blk_e ?_ | refine blk_o (by decide) ?_ | refine cp_t ?_ | refine cp_f ?_
          | ((with_reducible apply vCond_x); (focus (simp only [lv, E1, E2, E5, ET, T, orc_mv, noO_mv, mvB, orc_bx, noO_bx, bxB, orc_sx, noO_sx, sxB, fwd, fwds, inv, mOk, Int.toNat_natCast, Nat.div_one, Nat.mul_one, Int.reduceToNat, SB, List.not_mem_nil, ↓reduceIte, ne_eq, reduceCtorEq, Nat.reduceLT, Nat.reduceEqDiff, Nat.reduceAdd, Nat.reduceMul, Nat.reduceLeDiff, Nat.reduceDiv, Nat.reduceMod, Nat.reduceSub, Nat.reduceBEq, List.length_map, rn_len, nts_len, prs_len, prs_cnt, nts_cnt, rn_cnt10, prs_take, cut_prs, cnt_two, List.length_take, List.length_set, Int.add_sub_cancel]; with_reducible first | exact Eq.refl (bo true) | exact Eq.refl (bo false))))
          | ((with_reducible refine And.intro ?_ ?_); (focus (try omega)))
        all_goals try (exfalso; omega)
        all_goals try (exfalso; rename_i q; simp only [ha, hb, Int.toNat_natCast] at q; exact q (by assumption))
        simp only [ha, hb]
        have htl : (P.take k).length = k := by rw [List.length_take]; omega
        refine vLoop_s (fun j : Nat => [(.t 0, .t (sl (rn l))), (.t 1, .t (sl (nts t))), (.t 5, .t (sln 2 (prs P))), (.t 8, .t (.p (.one (.pr 0 0)))), (.t 38, .t (sln 2 (prs P))), (.t 39, .t (i64 P.length)), (.t 40, .t (i64 k)), (.t 115, .t (sln 2 (prs (P.take k)))), (.t 116, .t (i64 k)), (.t 117, .t (i64 j)), (.box 0, .box 42 [.v (.raw (.int .i64 a)), .v (.raw (.int .i64 b))])]) (fun j => j ≤ k) (fun j => k - j) 0 (by omega) (by first | rfl | (rw [htl]; rfl) | (rw [show min k P.length = k by omega]; rfl) | (simp only [cut_prs, prs_cnt, htl]; rfl)) ?_
        rintro j hj
        by_cases hjk : j < k
        · have hn := hnest j hjk
          rw [← hge j hjk] at hn
          repeat' first
            | ((first
                | ((with_reducible refine vR_cons (by decide) ?_); generalize hk : KtR _ _ _ _ _ _ _ _ _ _ = k)
                | ((first
                | with_reducible refine vOps_cons' ?_) <;> generalize hk : Kt _ _ _ _ _ _ _ _ _ = k)) <;> (simp only [Try.f5, lv, E1, E2, E5, ET, T, orc_mv, noO_mv, mvB, orc_bx, noO_bx, bxB, orc_sx, noO_sx, sxB, fwd, fwds, inv, mOk, Int.toNat_natCast, Nat.div_one, Nat.mul_one, Int.reduceToNat, SB, List.not_mem_nil, ↓reduceIte, ne_eq, reduceCtorEq, Nat.reduceLT, Nat.reduceEqDiff, Nat.reduceAdd, Nat.reduceMul, Nat.reduceLeDiff, Nat.reduceDiv, Nat.reduceMod, Nat.reduceSub, Nat.reduceBEq, List.length_map, rn_len, nts_len, prs_len, prs_cnt, nts_cnt, rn_cnt10, prs_take, cut_prs, cnt_two, List.length_take, List.length_set, Int.add_sub_cancel]; (try simp (disch := omega) only [wrap_in, Int.toNat_natCast, tv_rn, tv_nts, tv_prs0, tv_prs1]); subst hk))
            | with_reducible first | refine Kt_p ?_ | refine Kt_i (by kernel_rfl) ?_ | refine Kr_f (by kernel_rfl) ?_
            | (with_reducible refine Kr_t ?_; simp only [List.length_append, List.length_cons, List.length_nil, Nat.reduceAdd, Nat.reduceSub, List.drop_succ_cons, List.drop_zero])
            | with_reducible first | refine vR_nil ?_ | refine KtR_i (by kernel_rfl) ?_ | refine KrR_i (by kernel_rfl) ?_ | refine vR_skip (by decide) ?_
            | ((with_reducible refine vB_i ?_ ?_) <;> intro _ <;> (first | (exfalso; omega) | (exact absurd trivial ‹¬True›) | (try dsimp only [])))
            | ((with_reducible refine vOps_nil' ?_); refine Kr_i (by kernel_rfl) ?_; generalize hk : plain _ _ = G; simp only [lv, E3, E2, E5, rawX, deadX, SB, List.not_mem_nil, ↓reduceIte, ne_eq, reduceCtorEq, Nat.reduceLT, Nat.reduceEqDiff, Nat.reduceAdd, Nat.reduceMul, Nat.reduceLeDiff, Nat.reduceDiv, Nat.reduceMod, Nat.reduceSub, Nat.reduceBEq, List.length_map, rn_len, nts_len, prs_len, prs_cnt, nts_cnt, rn_cnt10, prs_take, cut_prs, cnt_two, List.length_take, List.length_set, Int.add_sub_cancel] at hk; subst hk)
            | with_reducible refine vSeq_i ?_
            | with_reducible first | refine vRegion_i (by kernel_rfl) ?_ | refine Kv_i ?_
            | ((with_reducible apply vStrK_i); (focus (rfl; done)))
            | ((with_reducible refine imp_i ?_); intro _)
            | with_reducible first | refine Ks_n ?_ | refine Ks_r ?_ | refine Ks_e ?_ | refine Kl_e ?_ | refine Kx_n ?_ | refine Kl_r ?_ | refine vRet_i ?_ | refine vSkip_i ?_ | refine vExit_i ?_ | refine vBlock_i ?_ | refine Ks_p ?_ | refine Kl_p ?_ | refine blk_p ?_ | exact Kb_p | refine vGoto_i ?_ | refine vLabel_i ?_ | refine Ks_g ?_ | refine Kl_g ?_ | refine blk_g ?_ | refine jmp_g ?_ | refine jmp_n ?_ | refine jmp_r ?_ | refine nog_n ?_ | refine nog_r ?_ | refine blk_n ?_ | refine blk_r ?_ | refine blk_e ?_ | refine blk_o (by decide) ?_ | refine cp_t ?_ | refine cp_f ?_
            | ((with_reducible apply vCond_x); (focus (simp only [lv, E1, E2, E5, ET, T, orc_mv, noO_mv, mvB, orc_bx, noO_bx, bxB, orc_sx, noO_sx, sxB, fwd, fwds, inv, mOk, Int.toNat_natCast, Nat.div_one, Nat.mul_one, Int.reduceToNat, SB, List.not_mem_nil, ↓reduceIte, ne_eq, reduceCtorEq, Nat.reduceLT, Nat.reduceEqDiff, Nat.reduceAdd, Nat.reduceMul, Nat.reduceLeDiff, Nat.reduceDiv, Nat.reduceMod, Nat.reduceSub, Nat.reduceBEq, List.length_map, rn_len, nts_len, prs_len, prs_cnt, nts_cnt, rn_cnt10, prs_take, cut_prs, cnt_two, List.length_take, List.length_set, Int.add_sub_cancel]; with_reducible first | exact Eq.refl (bo true) | exact Eq.refl (bo false))))
            | ((with_reducible refine And.intro ?_ ?_); (focus (try omega)))
          all_goals try (exfalso; omega)
          all_goals exact Kl_n ⟨j + 1, by omega, by omega, by simp only [Int.natCast_add, Int.natCast_one]⟩
        · skip
          repeat' first
            | ((first
                | ((with_reducible refine vR_cons (by decide) ?_); generalize hk : KtR _ _ _ _ _ _ _ _ _ _ = k)
                | ((first
                | with_reducible refine vOps_cons' ?_) <;> generalize hk : Kt _ _ _ _ _ _ _ _ _ = k)) <;> (simp only [Try.f5, lv, E1, E2, E5, ET, T, orc_mv, noO_mv, mvB, orc_bx, noO_bx, bxB, orc_sx, noO_sx, sxB, fwd, fwds, inv, mOk, Int.toNat_natCast, Nat.div_one, Nat.mul_one, Int.reduceToNat, SB, List.not_mem_nil, ↓reduceIte, ne_eq, reduceCtorEq, Nat.reduceLT, Nat.reduceEqDiff, Nat.reduceAdd, Nat.reduceMul, Nat.reduceLeDiff, Nat.reduceDiv, Nat.reduceMod, Nat.reduceSub, Nat.reduceBEq, List.length_map, rn_len, nts_len, prs_len, prs_cnt, nts_cnt, rn_cnt10, prs_take, cut_prs, cnt_two, List.length_take, List.length_set, Int.add_sub_cancel]; (try simp (disch := omega) only [wrap_in, Int.toNat_natCast, tv_rn, tv_nts, tv_prs0, tv_prs1]); subst hk))
            | with_reducible first | refine Kt_p ?_ | refine Kt_i (by kernel_rfl) ?_ | refine Kr_f (by kernel_rfl) ?_
            | (with_reducible refine Kr_t ?_; simp only [List.length_append, List.length_cons, List.length_nil, Nat.reduceAdd, Nat.reduceSub, List.drop_succ_cons, List.drop_zero])
            | with_reducible first | refine vR_nil ?_ | refine KtR_i (by kernel_rfl) ?_ | refine KrR_i (by kernel_rfl) ?_ | refine vR_skip (by decide) ?_
            | ((with_reducible refine vB_i ?_ ?_) <;> intro _ <;> (first | (exfalso; omega) | (exact absurd trivial ‹¬True›) | (try dsimp only [])))
            | ((with_reducible refine vOps_nil' ?_); refine Kr_i (by kernel_rfl) ?_; generalize hk : plain _ _ = G; simp only [lv, E3, E2, E5, rawX, deadX, SB, List.not_mem_nil, ↓reduceIte, ne_eq, reduceCtorEq, Nat.reduceLT, Nat.reduceEqDiff, Nat.reduceAdd, Nat.reduceMul, Nat.reduceLeDiff, Nat.reduceDiv, Nat.reduceMod, Nat.reduceSub, Nat.reduceBEq, List.length_map, rn_len, nts_len, prs_len, prs_cnt, nts_cnt, rn_cnt10, prs_take, cut_prs, cnt_two, List.length_take, List.length_set, Int.add_sub_cancel] at hk; subst hk)
            | with_reducible refine vSeq_i ?_
            | with_reducible first | refine vRegion_i (by kernel_rfl) ?_ | refine Kv_i ?_
            | ((with_reducible apply vStrK_i); (focus (rfl; done)))
            | ((with_reducible refine imp_i ?_); intro _)
            | with_reducible first | refine Ks_n ?_ | refine Ks_r ?_ | refine Ks_e ?_ | refine Kl_e ?_ | refine Kx_n ?_ | refine Kl_r ?_ | refine vRet_i ?_ | refine vSkip_i ?_ | refine vExit_i ?_ | refine vBlock_i ?_ | refine Ks_p ?_ | refine Kl_p ?_ | refine blk_p ?_ | exact Kb_p | refine vGoto_i ?_ | refine vLabel_i ?_ | refine Ks_g ?_ | refine Kl_g ?_ | refine blk_g ?_ | refine jmp_g ?_ | refine jmp_n ?_ | refine jmp_r ?_ | refine nog_n ?_ | refine nog_r ?_ | refine blk_n ?_ | refine blk_r ?_ | refine blk_e ?_ | refine blk_o (by decide) ?_ | refine cp_t ?_ | refine cp_f ?_
            | ((with_reducible apply vCond_x); (focus (simp only [lv, E1, E2, E5, ET, T, orc_mv, noO_mv, mvB, orc_bx, noO_bx, bxB, orc_sx, noO_sx, sxB, fwd, fwds, inv, mOk, Int.toNat_natCast, Nat.div_one, Nat.mul_one, Int.reduceToNat, SB, List.not_mem_nil, ↓reduceIte, ne_eq, reduceCtorEq, Nat.reduceLT, Nat.reduceEqDiff, Nat.reduceAdd, Nat.reduceMul, Nat.reduceLeDiff, Nat.reduceDiv, Nat.reduceMod, Nat.reduceSub, Nat.reduceBEq, List.length_map, rn_len, nts_len, prs_len, prs_cnt, nts_cnt, rn_cnt10, prs_take, cut_prs, cnt_two, List.length_take, List.length_set, Int.add_sub_cancel]; with_reducible first | exact Eq.refl (bo true) | exact Eq.refl (bo false))))
            | ((with_reducible refine And.intro ?_ ?_); (focus (try omega)))
          all_goals try (exfalso; omega)
          exact Kl_n ⟨k + 1, by omega, by omega, by simp only [Int.natCast_add, Int.natCast_one]⟩
      · skip
        repeat' first
          | ((first
              | ((with_reducible refine vR_cons (by decide) ?_); generalize hk : KtR _ _ _ _ _ _ _ _ _ _ = k)
              | ((first
              | with_reducible refine vOps_cons' ?_) <;> generalize hk : Kt _ _ _ _ _ _ _ _ _ = k)) <;> (simp only [Try.f5, lv, E1, E2, E5, ET, T, orc_mv, noO_mv, mvB, orc_bx, noO_bx, bxB, orc_sx, noO_sx, sxB, fwd, fwds, inv, mOk, Int.toNat_natCast, Nat.div_one, Nat.mul_one, Int.reduceToNat, SB, List.not_mem_nil, ↓reduceIte, ne_eq, reduceCtorEq, Nat.reduceLT, Nat.reduceEqDiff, Nat.reduceAdd, Nat.reduceMul, Nat.reduceLeDiff, Nat.reduceDiv, Nat.reduceMod, Nat.reduceSub, Nat.reduceBEq, List.length_map, rn_len, nts_len, prs_len, prs_cnt, nts_cnt, rn_cnt10, prs_take, cut_prs, cnt_two, List.length_take, List.length_set, Int.add_sub_cancel]; (try simp (disch := omega) only [wrap_in, Int.toNat_natCast, tv_rn, tv_nts, tv_prs0, tv_prs1]); subst hk))
          | with_reducible first | refine Kt_p ?_ | refine Kt_i (by kernel_rfl) ?_ | refine Kr_f (by kernel_rfl) ?_
          | (with_reducible refine Kr_t ?_; simp only [List.length_append, List.length_cons, List.length_nil, Nat.reduceAdd, Nat.reduceSub, List.drop_succ_cons, List.drop_zero])
          | with_reducible first | refine vR_nil ?_ | refine KtR_i (by kernel_rfl) ?_ | refine KrR_i (by kernel_rfl) ?_ | refine vR_skip (by decide) ?_
          | ((with_reducible refine vB_i ?_ ?_) <;> intro _ <;> (first | (exfalso; omega) | (exact absurd trivial ‹¬True›) | (try dsimp only [])))
          | ((with_reducible refine vOps_nil' ?_); refine Kr_i (by kernel_rfl) ?_; generalize hk : plain _ _ = G; simp only [lv, E3, E2, E5, rawX, deadX, SB, List.not_mem_nil, ↓reduceIte, ne_eq, reduceCtorEq, Nat.reduceLT, Nat.reduceEqDiff, Nat.reduceAdd, Nat.reduceMul, Nat.reduceLeDiff, Nat.reduceDiv, Nat.reduceMod, Nat.reduceSub, Nat.reduceBEq, List.length_map, rn_len, nts_len, prs_len, prs_cnt, nts_cnt, rn_cnt10, prs_take, cut_prs, cnt_two, List.length_take, List.length_set, Int.add_sub_cancel] at hk; subst hk)
          | with_reducible refine vSeq_i ?_
          | with_reducible first | refine vRegion_i (by kernel_rfl) ?_ | refine Kv_i ?_
          | ((with_reducible apply vStrK_i); (focus (rfl; done)))
          | ((with_reducible refine imp_i ?_); intro _)
          | with_reducible first | refine Ks_n ?_ | refine Ks_r ?_ | refine Ks_e ?_ | refine Kl_e ?_ | refine Kx_n ?_ | refine Kl_r ?_ | refine vRet_i ?_ | refine vSkip_i ?_ | refine vExit_i ?_ | refine vBlock_i ?_ | refine Ks_p ?_ | refine Kl_p ?_ | refine blk_p ?_ | exact Kb_p | refine vGoto_i ?_ | refine vLabel_i ?_ | refine Ks_g ?_ | refine Kl_g ?_ | refine blk_g ?_ | refine jmp_g ?_ | refine jmp_n ?_ | refine jmp_r ?_ | refine nog_n ?_ | refine nog_r ?_ | refine blk_n ?_ | refine blk_r ?_ | refine blk_e ?_ | refine blk_o (by decide) ?_ | refine cp_t ?_ | refine cp_f ?_
          | ((with_reducible apply vCond_x); (focus (simp only [lv, E1, E2, E5, ET, T, orc_mv, noO_mv, mvB, orc_bx, noO_bx, bxB, orc_sx, noO_sx, sxB, fwd, fwds, inv, mOk, Int.toNat_natCast, Nat.div_one, Nat.mul_one, Int.reduceToNat, SB, List.not_mem_nil, ↓reduceIte, ne_eq, reduceCtorEq, Nat.reduceLT, Nat.reduceEqDiff, Nat.reduceAdd, Nat.reduceMul, Nat.reduceLeDiff, Nat.reduceDiv, Nat.reduceMod, Nat.reduceSub, Nat.reduceBEq, List.length_map, rn_len, nts_len, prs_len, prs_cnt, nts_cnt, rn_cnt10, prs_take, cut_prs, cnt_two, List.length_take, List.length_set, Int.add_sub_cancel]; with_reducible first | exact Eq.refl (bo true) | exact Eq.refl (bo false))))
          | ((with_reducible refine And.intro ?_ ?_); (focus (try omega)))
        all_goals try (exfalso; omega)
        refine Kf_r ?_
        simp only [Try.f5, E4, E3, E2, E5, rawX, deadX, ET, T, SB, List.not_mem_nil, ↓reduceIte, ne_eq, reduceCtorEq, Nat.reduceLT, Nat.reduceEqDiff, Nat.reduceAdd, Nat.reduceMul, Nat.reduceLeDiff, Nat.reduceDiv, Nat.reduceMod, Nat.reduceSub, Nat.reduceBEq, List.length_map, rn_len, nts_len, prs_len, prs_cnt, nts_cnt, rn_cnt10, prs_take, cut_prs, cnt_two, List.length_take, List.length_set, Int.add_sub_cancel]
  · have q1 := pairs_bad l t h hl ht
    repeat' first
      | ((first
          | ((with_reducible refine vR_cons (by decide) ?_); generalize hk : KtR _ _ _ _ _ _ _ _ _ _ = k)
          | ((first
          | with_reducible refine vOps_cons' ?_
          | ((with_reducible apply orc_i); (focus (exact q1; done)))
          | ((with_reducible apply orc_i); (focus (exact q6; done)))) <;> generalize hk : Kt _ _ _ _ _ _ _ _ _ = k)) <;> (simp only [Try.f5, lv, E1, E2, E5, ET, T, orc_mv, noO_mv, mvB, orc_bx, noO_bx, bxB, orc_sx, noO_sx, sxB, fwd, fwds, inv, mOk, Int.toNat_natCast, Nat.div_one, Nat.mul_one, Int.reduceToNat, SB, List.not_mem_nil, ↓reduceIte, ne_eq, reduceCtorEq, Nat.reduceLT, Nat.reduceEqDiff, Nat.reduceAdd, Nat.reduceMul, Nat.reduceLeDiff, Nat.reduceDiv, Nat.reduceMod, Nat.reduceSub, Nat.reduceBEq, List.length_map, rn_len, nts_len, prs_len, prs_cnt, nts_cnt, rn_cnt10, prs_take, cut_prs, cnt_two, List.length_take, List.length_set, Int.add_sub_cancel]; (try simp (disch := omega) only [wrap_in, Int.toNat_natCast, tv_rn, tv_nts, tv_prs0, tv_prs1]); subst hk))
      | with_reducible first | refine Kt_p ?_ | refine Kt_i (by kernel_rfl) ?_ | refine Kr_f (by kernel_rfl) ?_
      | (with_reducible refine Kr_t ?_; simp only [List.length_append, List.length_cons, List.length_nil, Nat.reduceAdd, Nat.reduceSub, List.drop_succ_cons, List.drop_zero])
      | with_reducible first | refine vR_nil ?_ | refine KtR_i (by kernel_rfl) ?_ | refine KrR_i (by kernel_rfl) ?_ | refine vR_skip (by decide) ?_
      | ((with_reducible refine vB_i ?_ ?_) <;> intro _ <;> (first | (exfalso; omega) | (exact absurd trivial ‹¬True›) | (try dsimp only [])))
      | ((with_reducible refine vOps_nil' ?_); refine Kr_i (by kernel_rfl) ?_; generalize hk : plain _ _ = G; simp only [lv, E3, E2, E5, rawX, deadX, SB, List.not_mem_nil, ↓reduceIte, ne_eq, reduceCtorEq, Nat.reduceLT, Nat.reduceEqDiff, Nat.reduceAdd, Nat.reduceMul, Nat.reduceLeDiff, Nat.reduceDiv, Nat.reduceMod, Nat.reduceSub, Nat.reduceBEq, List.length_map, rn_len, nts_len, prs_len, prs_cnt, nts_cnt, rn_cnt10, prs_take, cut_prs, cnt_two, List.length_take, List.length_set, Int.add_sub_cancel] at hk; subst hk)
      | with_reducible refine vSeq_i ?_
      | with_reducible first | refine vRegion_i (by kernel_rfl) ?_ | refine Kv_i ?_
      | ((with_reducible apply vStrK_i); (focus (rfl; done)))
      | ((with_reducible refine imp_i ?_); intro _)
      | with_reducible first | refine Ks_n ?_ | refine Ks_r ?_ | refine Ks_e ?_ | refine Kl_e ?_ | refine Kx_n ?_ | refine Kl_r ?_ | refine vRet_i ?_ | refine vSkip_i ?_ | refine vExit_i ?_ | refine vBlock_i ?_ | refine Ks_p ?_ | refine Kl_p ?_ | refine blk_p ?_ | exact Kb_p | refine vGoto_i ?_ | refine vLabel_i ?_ | refine Ks_g ?_ | refine Kl_g ?_ | refine blk_g ?_ | refine jmp_g ?_ | refine jmp_n ?_ | refine jmp_r ?_ | refine nog_n ?_ | refine nog_r ?_ | refine blk_n ?_ | refine blk_r ?_ | refine blk_e ?_ | refine blk_o (by decide) ?_ | refine cp_t ?_ | refine cp_f ?_
      | ((with_reducible apply vCond_x); (focus (simp only [lv, E1, E2, E5, ET, T, orc_mv, noO_mv, mvB, orc_bx, noO_bx, bxB, orc_sx, noO_sx, sxB, fwd, fwds, inv, mOk, Int.toNat_natCast, Nat.div_one, Nat.mul_one, Int.reduceToNat, SB, List.not_mem_nil, ↓reduceIte, ne_eq, reduceCtorEq, Nat.reduceLT, Nat.reduceEqDiff, Nat.reduceAdd, Nat.reduceMul, Nat.reduceLeDiff, Nat.reduceDiv, Nat.reduceMod, Nat.reduceSub, Nat.reduceBEq, List.length_map, rn_len, nts_len, prs_len, prs_cnt, nts_cnt, rn_cnt10, prs_take, cut_prs, cnt_two, List.length_take, List.length_set, Int.add_sub_cancel]; with_reducible first | exact Eq.refl (bo true) | exact Eq.refl (bo false))))
      | ((with_reducible refine And.intro ?_ ?_); (focus (try omega)))
    all_goals try (exfalso; omega)
    refine Kf_r ?_
    simp only [Try.f5, E4, E3, E2, E5, rawX, deadX, ET, T, SB, List.not_mem_nil, ↓reduceIte, ne_eq, reduceCtorEq, Nat.reduceLT, Nat.reduceEqDiff, Nat.reduceAdd, Nat.reduceMul, Nat.reduceLeDiff, Nat.reduceDiv, Nat.reduceMod, Nat.reduceSub, Nat.reduceBEq, List.length_map, rn_len, nts_len, prs_len, prs_cnt, nts_cnt, rn_cnt10, prs_take, cut_prs, cnt_two, List.length_take, List.length_set, Int.add_sub_cancel]
end Go.Proofs.YtncabdcaamkhiaaG
/- L10b: BracketNest at what came in. -/
namespace Go.Proofs.YtncabdcaamkhiaaG
open Go Go.RowKit Go.Proofs Go.Proofs.Ytncabdcaamkhiaa
theorem bracketNest_in {W : World} {v0 v1 : Value} {x0 x1 : SV} (t0 : Typ T 1048576 22 [x0]) (a0 : XR W (gI W) v0 (.p (.one (.v x0)))) (t1 : Typ T 1048576 23 [x1]) (a1 : XR W (gI W) v1 (.p (.one (.v x1)))) :
    Calls Try.prog 5 #[v0, v1] W fun e W' => e = .returned (.bool true) ∧ Below W.heap.size W W' := by
  obtain ⟨l, rfl, hl⟩ := typ_rn10 t0
  obtain ⟨t, rfl, ht⟩ := typ_nt10 t1
  exact law_calls (bracketNest_law l t (by omega) (by omega)) (.cons a0 (.cons a1 .nil))
end Go.Proofs.YtncabdcaamkhiaaG
