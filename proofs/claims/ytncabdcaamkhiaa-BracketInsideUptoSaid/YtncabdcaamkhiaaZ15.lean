/- YtncabdcaamkhiaaZ15: a part of the proof, joined of its texts. -/
import Derived.Test.YtncabdcaamkhiaaZ14
namespace Go.Proofs.YtncabdcaamkhiaaG
open Go Go.RowKit Go.Proofs
set_option linter.unusedSimpArgs false
set_option linter.unusedVariables false
def opsF (l : List Int) (W : List Nat) : List SV := W.flatMap fun (i : Nat) => [.raw (.int .i32 (canF (brF (l.getD i 0)).2)), .raw (.int .i64 (i : Int))]
theorem ops_len (l : List Int) (W : List Nat) : (opsF l W).length = 2 * W.length := by
  induction W with
  | nil => rfl
  | cons a W ih => simp only [opsF, List.flatMap_cons, List.length_append, List.length_cons, List.length_nil] at ih ⊢; omega
theorem prs_raw (l : List (Int × Int)) : ∀ x ∈ prs l, x.isRaw = true := by
  intro x hx
  obtain ⟨p, _, h⟩ := List.mem_flatMap.1 hx
  simp only [List.mem_cons, List.not_mem_nil, or_false] at h
  rcases h with rfl | rfl <;> rfl
theorem seq_n {K : List (Nm × C) → Prop} {Q G} (h : K G) : GEx.seq K Q .normal G := h
theorem ops_cnt (l : List Int) (W : List Nat) : cnt 2 (opsF l W) = W.length := by unfold cnt; rw [ops_len]; omega
theorem prs_cnt (O : List (Int × Int)) : cnt 2 (prs O) = O.length := by unfold cnt; rw [prs_len]; omega
theorem ops_take (l : List Int) : ∀ (W : List Nat) (m : Nat), (opsF l W).take (m * 2) = opsF l (W.take m)
  | _, 0 => by rw [Nat.zero_mul, List.take_zero, List.take_zero]; rfl
  | [], m + 1 => by rw [List.take_nil]; exact List.take_nil
  | a :: W, m + 1 => by
    have := ops_take l W m
    rw [show (m + 1) * 2 = m * 2 + 1 + 1 by omega]
    simpa only [opsF, List.flatMap_cons, List.cons_append, List.nil_append, List.take_succ_cons, List.cons.injEq, true_and] using this
theorem cnt_two (a b : SV) : cnt 2 [a, b] = 1 := by unfold cnt; simp
theorem tv_ops0 (l : List Int) : ∀ {W : List Nat} {m : Nat}, m < W.length → (List.map TV.v (opsF l W)).getD (m * 2) .dead = .v (.raw (.int .i32 (canF (brF (l.getD (W.getD m 0) 0)).2)))
  | [], _, h => absurd h (Nat.not_lt_zero _)
  | a :: W, 0, _ => rfl
  | a :: W, m + 1, h => by
    have := tv_ops0 l (W := W) (m := m) (by simpa using h)
    rw [show (m + 1) * 2 = m * 2 + 1 + 1 by omega]
    simpa only [opsF, List.flatMap_cons, List.cons_append, List.nil_append, List.map_cons, List.getD_cons_succ] using this
theorem tv_ops1 (l : List Int) : ∀ {W : List Nat} {m : Nat}, m < W.length → (List.map TV.v (opsF l W)).getD (m * 2 + 1) .dead = .v (.raw (.int .i64 ((W.getD m 0 : Nat) : Int)))
  | [], _, h => absurd h (Nat.not_lt_zero _)
  | a :: W, 0, _ => rfl
  | a :: W, m + 1, h => by
    have := tv_ops1 l (W := W) (m := m) (by simpa using h)
    rw [show (m + 1) * 2 + 1 = m * 2 + 1 + 1 + 1 by omega]
    simpa only [opsF, List.flatMap_cons, List.cons_append, List.nil_append, List.map_cons, List.getD_cons_succ] using this
theorem ops_app (l : List Int) (W : List Nat) (i : Nat) : opsF l (W ++ [i]) = opsF l W ++ [.raw (.int .i32 (canF (brF (l.getD i 0)).2)), .raw (.int .i64 (i : Int))] := by
  simp only [opsF, List.flatMap_append, List.flatMap_cons, List.flatMap_nil, List.append_nil]
theorem prs_app (O : List (Int × Int)) (a b : Int) : prs (O ++ [(a, b)]) = prs O ++ [.raw (.int .i64 a), .raw (.int .i64 b)] := by
  simp only [prs, List.flatMap_append, List.flatMap_cons, List.flatMap_nil, List.append_nil]
theorem br_rng (r : Int) : (brF r).1 = 0 ∨ (brF r).1 = 1 ∨ (brF r).1 = 2 := by
  unfold brF; split <;> (try split) <;> simp
theorem nodup_len : ∀ {l m : List Int}, l.Nodup → l.Subset m → l.length ≤ m.length
  | [], _, _, _ => Nat.zero_le _
  | a :: l, m, h, hs => by
    simp only [List.nodup_cons] at h
    have ha : a ∈ m := hs (List.mem_cons_self ..)
    have := nodup_len (l := l) (m := m.erase a) h.2 fun x hx => (List.mem_erase_of_ne (fun e => h.1 (by rw [e] at hx; exact hx))).2 (hs (List.mem_cons_of_mem _ hx))
    rw [List.length_erase_of_mem ha] at this
    have : 0 < m.length := List.length_pos_of_mem ha
    simp only [List.length_cons]; omega
theorem len_fst {i : Nat} {z : WS} (h : Wok i z) : z.2.length ≤ i := by
  have h1 := (List.nodup_append.1 h.nd).2.1
  have : (z.2.map (·.1)).Subset ((List.range i).map fun (j : Nat) => (j : Int)) := fun a ha => by
    obtain ⟨p, hp, rfl⟩ := List.mem_map.1 ha
    have := h.pr p hp
    exact List.mem_map.2 ⟨p.1.toNat, List.mem_range.2 (by omega), by omega⟩
  have h2 := nodup_len h1 this
  simpa using h2
set_option maxRecDepth 10000 in
set_option maxHeartbeats 4000000 in
theorem pairs_ok (l t : List Int) (hn : t.length = l.length) (hl : l.length ≤ 2000000) : CallOk Try.prog 10 [sl (rn l), sl (nts t)] (.tup [.one (.sr 0), .one (.v (.raw (.int .i64 0)))]) [(42, 2, prs (prsF l t))] true := by
  refine fn_okS2 (l := 0) T_ok (orc_ok _) mixed Try.func10 rfl (by rfl) (by kernel_rfl) (lv [[0, 1], [0, 1, 17], [4, 5], [0, 1, 6], [0, 1, 6, 7], [1, 6, 7, 18, 19, 20], [1, 6, 7, 18, 19, 20, 21], [1, 6, 7, 8, 9, 18, 19, 20], [1, 6, 7, 8, 9, 10, 11, 18, 19, 20], [1, 6, 7, 8, 9, 10, 11, 18, 19, 20, 38], [1, 6, 7, 8, 9, 11, 18, 19, 20, 40], [1, 6, 7, 8, 11, 18, 19, 20, 43], [1, 6, 7, 18, 19, 20], [1, 6, 7, 8, 9, 12, 18, 19, 20], [1, 6, 7, 8, 9, 12, 18, 19, 20, 55], [1, 6, 7, 8, 9, 12, 18, 19, 20], [1, 6, 7, 8, 9, 12, 18, 19, 20, 65], [1, 6, 7, 12, 18, 19, 20], [1, 6, 7, 18, 19, 20], [1, 6, 7, 18, 19, 20], [6], [4, 5]]) 83 rfl (by simp) rfl (fun _ => ⟨by simp [X.all, PX.all, TV.rawR, SV.isRaw], fun r hr => by simp only [List.mem_singleton] at hr; subst hr; exact prs_raw _⟩) ?_
  simp only [argsG, Nat.zero_add, Nat.reduceAdd]
  repeat' first
    | ((first
        | ((with_reducible refine vR_cons (by decide) ?_); generalize hk : KtR _ _ _ _ _ _ _ _ _ _ = k)
        | ((first
        | with_reducible refine vOps_cons' ?_) <;> generalize hk : Kt _ _ _ _ _ _ _ _ _ = k)) <;> (simp only [Try.f10, lv, E1, E2, E5, ET, T, orc_mv, noO_mv, mvB, orc_bx, noO_bx, bxB, orc_sx, noO_sx, sxB, fwd, fwds, inv, mOk, Int.toNat_natCast, Nat.div_one, Nat.mul_one, Int.reduceToNat, SB, List.not_mem_nil, ↓reduceIte, ne_eq, reduceCtorEq, Nat.reduceLT, Nat.reduceEqDiff, Nat.reduceAdd, Nat.reduceMul, Nat.reduceLeDiff, Nat.reduceDiv, Nat.reduceMod, Nat.reduceSub, Nat.reduceBEq, List.length_map, rn_len, nts_len, cut_nts, List.length_take, List.length_drop, prs_len, ops_len, ops_cnt, prs_cnt, ops_take, cnt_two]; (try simp (disch := omega) only [wrap_in, Int.toNat_natCast, tv_rn, tv_nts, tv_ops0, tv_ops1]); subst hk))
    | with_reducible first | refine Kt_p ?_ | refine Kt_i (by kernel_rfl) ?_ | refine Kr_f (by kernel_rfl) ?_
    | (with_reducible refine Kr_t ?_; simp only [List.length_append, List.length_cons, List.length_nil, Nat.reduceAdd, Nat.reduceSub, List.drop_succ_cons, List.drop_zero])
    | with_reducible first | refine vR_nil ?_ | refine KtR_i (by kernel_rfl) ?_ | refine KrR_i (by kernel_rfl) ?_ | refine vR_skip (by decide) ?_
    | ((with_reducible refine vB_i ?_ ?_) <;> intro _ <;> (first | (exfalso; omega) | (exact absurd trivial ‹¬True›) | (try dsimp only [])))
    | ((with_reducible refine vOps_nil' ?_); refine Kr_i (by kernel_rfl) ?_; generalize hk : plain _ _ = G; simp only [lv, E3, E2, E5, rawX, deadX, SB, List.not_mem_nil, ↓reduceIte, ne_eq, reduceCtorEq, Nat.reduceLT, Nat.reduceEqDiff, Nat.reduceAdd, Nat.reduceMul, Nat.reduceLeDiff, Nat.reduceDiv, Nat.reduceMod, Nat.reduceSub, Nat.reduceBEq, List.length_map, rn_len, nts_len, cut_nts, List.length_take, List.length_drop, prs_len, ops_len, ops_cnt, prs_cnt, ops_take, cnt_two] at hk; subst hk)
    | with_reducible refine vSeq_i ?_
    | with_reducible first | refine vRegion_i (by kernel_rfl) ?_ | refine Kv_i ?_
    | ((with_reducible apply vStrK_i); (focus (rfl; done)))
    | ((with_reducible refine imp_i ?_); intro _)
    | with_reducible first | refine Ks_n ?_ | refine Ks_r ?_ | refine Ks_e ?_ | refine Kl_e ?_ | refine Kx_n ?_ | refine Kl_r ?_ | refine vRet_i ?_ | refine vSkip_i ?_ | refine vExit_i ?_ | refine vBlock_i ?_ | refine Ks_p ?_ | refine Kl_p ?_ | refine blk_p ?_ | exact Kb_p | refine vGoto_i ?_ | refine vLabel_i ?_ | refine Ks_g ?_ | refine Kl_g ?_ | refine blk_g ?_ | refine jmp_g ?_ | refine jmp_n ?_ | refine jmp_r ?_ | refine nog_n ?_ | refine nog_r ?_ | refine blk_n ?_ | refine blk_r ?_ | refine blk_e ?_ | refine blk_o (by decide) ?_ | refine cp_t ?_ | refine cp_f ?_
    | ((with_reducible apply vCond_x); (focus (simp only [lv, E1, E2, E5, ET, T, orc_mv, noO_mv, mvB, orc_bx, noO_bx, bxB, orc_sx, noO_sx, sxB, fwd, fwds, inv, mOk, Int.toNat_natCast, Nat.div_one, Nat.mul_one, Int.reduceToNat, SB, List.not_mem_nil, ↓reduceIte, ne_eq, reduceCtorEq, Nat.reduceLT, Nat.reduceEqDiff, Nat.reduceAdd, Nat.reduceMul, Nat.reduceLeDiff, Nat.reduceDiv, Nat.reduceMod, Nat.reduceSub, Nat.reduceBEq, List.length_map, rn_len, nts_len, cut_nts, List.length_take, List.length_drop, prs_len, ops_len, ops_cnt, prs_cnt, ops_take, cnt_two]; with_reducible first | exact Eq.refl (bo true) | exact Eq.refl (bo false))))
    | ((with_reducible refine And.intro ?_ ?_); (focus (try omega)))
  refine seq_n ?_
  repeat' first
    | ((first
        | ((with_reducible refine vR_cons (by decide) ?_); generalize hk : KtR _ _ _ _ _ _ _ _ _ _ = k)
        | ((first
        | with_reducible refine vOps_cons' ?_) <;> generalize hk : Kt _ _ _ _ _ _ _ _ _ = k)) <;> (simp only [Try.f10, lv, E1, E2, E5, ET, T, orc_mv, noO_mv, mvB, orc_bx, noO_bx, bxB, orc_sx, noO_sx, sxB, fwd, fwds, inv, mOk, Int.toNat_natCast, Nat.div_one, Nat.mul_one, Int.reduceToNat, SB, List.not_mem_nil, ↓reduceIte, ne_eq, reduceCtorEq, Nat.reduceLT, Nat.reduceEqDiff, Nat.reduceAdd, Nat.reduceMul, Nat.reduceLeDiff, Nat.reduceDiv, Nat.reduceMod, Nat.reduceSub, Nat.reduceBEq, List.length_map, rn_len, nts_len, cut_nts, List.length_take, List.length_drop, prs_len, ops_len, ops_cnt, prs_cnt, ops_take, cnt_two]; (try simp (disch := omega) only [wrap_in, Int.toNat_natCast, tv_rn, tv_nts, tv_ops0, tv_ops1]); subst hk))
    | with_reducible first | refine Kt_p ?_ | refine Kt_i (by kernel_rfl) ?_ | refine Kr_f (by kernel_rfl) ?_
    | (with_reducible refine Kr_t ?_; simp only [List.length_append, List.length_cons, List.length_nil, Nat.reduceAdd, Nat.reduceSub, List.drop_succ_cons, List.drop_zero])
    | with_reducible first | refine vR_nil ?_ | refine KtR_i (by kernel_rfl) ?_ | refine KrR_i (by kernel_rfl) ?_ | refine vR_skip (by decide) ?_
    | ((with_reducible refine vB_i ?_ ?_) <;> intro _ <;> (first | (exfalso; omega) | (exact absurd trivial ‹¬True›) | (try dsimp only [])))
    | ((with_reducible refine vOps_nil' ?_); refine Kr_i (by kernel_rfl) ?_; generalize hk : plain _ _ = G; simp only [lv, E3, E2, E5, rawX, deadX, SB, List.not_mem_nil, ↓reduceIte, ne_eq, reduceCtorEq, Nat.reduceLT, Nat.reduceEqDiff, Nat.reduceAdd, Nat.reduceMul, Nat.reduceLeDiff, Nat.reduceDiv, Nat.reduceMod, Nat.reduceSub, Nat.reduceBEq, List.length_map, rn_len, nts_len, cut_nts, List.length_take, List.length_drop, prs_len, ops_len, ops_cnt, prs_cnt, ops_take, cnt_two] at hk; subst hk)
    | with_reducible refine vSeq_i ?_
    | with_reducible first | refine vRegion_i (by kernel_rfl) ?_ | refine Kv_i ?_
    | ((with_reducible apply vStrK_i); (focus (rfl; done)))
    | ((with_reducible refine imp_i ?_); intro _)
    | with_reducible first | refine Ks_n ?_ | refine Ks_r ?_ | refine Ks_e ?_ | refine Kl_e ?_ | refine Kx_n ?_ | refine Kl_r ?_ | refine vRet_i ?_ | refine vSkip_i ?_ | refine vExit_i ?_ | refine vBlock_i ?_ | refine Ks_p ?_ | refine Kl_p ?_ | refine blk_p ?_ | exact Kb_p | refine vGoto_i ?_ | refine vLabel_i ?_ | refine Ks_g ?_ | refine Kl_g ?_ | refine blk_g ?_ | refine jmp_g ?_ | refine jmp_n ?_ | refine jmp_r ?_ | refine nog_n ?_ | refine nog_r ?_ | refine blk_n ?_ | refine blk_r ?_ | refine blk_e ?_ | refine blk_o (by decide) ?_ | refine cp_t ?_ | refine cp_f ?_
    | ((with_reducible apply vCond_x); (focus (simp only [lv, E1, E2, E5, ET, T, orc_mv, noO_mv, mvB, orc_bx, noO_bx, bxB, orc_sx, noO_sx, sxB, fwd, fwds, inv, mOk, Int.toNat_natCast, Nat.div_one, Nat.mul_one, Int.reduceToNat, SB, List.not_mem_nil, ↓reduceIte, ne_eq, reduceCtorEq, Nat.reduceLT, Nat.reduceEqDiff, Nat.reduceAdd, Nat.reduceMul, Nat.reduceLeDiff, Nat.reduceDiv, Nat.reduceMod, Nat.reduceSub, Nat.reduceBEq, List.length_map, rn_len, nts_len, cut_nts, List.length_take, List.length_drop, prs_len, ops_len, ops_cnt, prs_cnt, ops_take, cnt_two]; with_reducible first | exact Eq.refl (bo true) | exact Eq.refl (bo false))))
    | ((with_reducible refine And.intro ?_ ?_); (focus (try omega)))
  all_goals try (exfalso; omega)
  refine vLoop_s (fun i : Nat => [(.t 1, .t (sl (nts t))), (.t 6, .t (.p (.one (.sr 0)))), (.t 7, .t (.p (.one (.sr 1)))), (.t 18, .t (sl (rn l))), (.t 19, .t (i64 l.length)), (.t 20, .t (i64 i)), (.row 0, .row 42 2 (prs (stW l t i).1.2)), (.row 1, .row 52 2 (opsF l (stW l t i).1.1))]) (fun i => i ≤ l.length ∧ (stW l t i).2 = false) (fun i => l.length - i) 0 ⟨by omega, rfl⟩ rfl ?_
  rintro i ⟨hi, hst⟩
  have hok := stW_ok l t i
  have hbr := br_rng (l.getD i 0)
  have hnx : stW l t (i + 1) = stW l t (i + 1) := rfl
  conv at hnx => rhs; rw [stW, if_neg (by rw [hst]; decide)]
  have hstp : (stW l t (i + 1)).2 = true → i < l.length → prsF l t = rising l.length (stW l t (i + 1)).1.2 := fun h1 h2 => by unfold prsF; rw [stW_stop l t h1 l.length (by omega)]
  have hend : ¬ i < l.length → prsF l t = rising l.length (stW l t i).1.2 := fun h => by unfold prsF; rw [show l.length = i by omega]
  have hsort := sort_calls (stW l t i).1.2 (rising l.length (stW l t i).1.2) (fun p hp => by have := hok.pr p hp; omega) (List.nodup_append.1 hok.nd).2.1 (rising_perm (List.nodup_append.1 hok.nd).2.1 fun p hp => by have := hok.pr p hp; omega) (rising_sorted _ _) (by have := len_fst hok; omega)
  obtain ⟨W, hW⟩ : ∃ W, W = (stW l t i).1.1 := ⟨_, rfl⟩
  obtain ⟨O, hO⟩ : ∃ O, O = (stW l t i).1.2 := ⟨_, rfl⟩
  have hWl : W.length ≤ 63 := hW ▸ hok.len
  have hOl : O.length ≤ i := hO ▸ len_fst hok
  rw [← hO] at hsort hend
  rw [← hW, ← hO] at hnx
  rw [← hW, ← hO]
  repeat' first
    | ((first
        | ((with_reducible refine vR_cons (by decide) ?_); generalize hk : KtR _ _ _ _ _ _ _ _ _ _ = k)
        | ((first
        | with_reducible refine vOps_cons' ?_
        | ((with_reducible apply orc_i); (focus (exact bracket_ok _; done)))
        | ((with_reducible apply orc_i); (focus (exact canon_ok _; done)))) <;> generalize hk : Kt _ _ _ _ _ _ _ _ _ = k)) <;> (simp only [Try.f10, lv, E1, E2, E5, ET, T, orc_mv, noO_mv, mvB, orc_bx, noO_bx, bxB, orc_sx, noO_sx, sxB, fwd, fwds, inv, mOk, Int.toNat_natCast, Nat.div_one, Nat.mul_one, Int.reduceToNat, SB, List.not_mem_nil, ↓reduceIte, ne_eq, reduceCtorEq, Nat.reduceLT, Nat.reduceEqDiff, Nat.reduceAdd, Nat.reduceMul, Nat.reduceLeDiff, Nat.reduceDiv, Nat.reduceMod, Nat.reduceSub, Nat.reduceBEq, List.length_map, rn_len, nts_len, cut_nts, List.length_take, List.length_drop, prs_len, ops_len, ops_cnt, prs_cnt, ops_take, cnt_two]; (try simp (disch := omega) only [wrap_in, Int.toNat_natCast, tv_rn, tv_nts, tv_ops0, tv_ops1]); subst hk))
    | with_reducible first | refine Kt_p ?_ | refine Kt_i (by kernel_rfl) ?_ | refine Kr_f (by kernel_rfl) ?_
    | (with_reducible refine Kr_t ?_; simp only [List.length_append, List.length_cons, List.length_nil, Nat.reduceAdd, Nat.reduceSub, List.drop_succ_cons, List.drop_zero])
    | with_reducible first | refine vR_nil ?_ | refine KtR_i (by kernel_rfl) ?_ | refine KrR_i (by kernel_rfl) ?_ | refine vR_skip (by decide) ?_
    | ((with_reducible refine vB_i ?_ ?_) <;> intro _ <;> (first | (exfalso; omega) | (exact absurd trivial ‹¬True›) | (try dsimp only [])))
    | ((with_reducible refine vOps_nil' ?_); refine Kr_i (by kernel_rfl) ?_; generalize hk : plain _ _ = G; simp only [lv, E3, E2, E5, rawX, deadX, SB, List.not_mem_nil, ↓reduceIte, ne_eq, reduceCtorEq, Nat.reduceLT, Nat.reduceEqDiff, Nat.reduceAdd, Nat.reduceMul, Nat.reduceLeDiff, Nat.reduceDiv, Nat.reduceMod, Nat.reduceSub, Nat.reduceBEq, List.length_map, rn_len, nts_len, cut_nts, List.length_take, List.length_drop, prs_len, ops_len, ops_cnt, prs_cnt, ops_take, cnt_two] at hk; subst hk)
    | with_reducible refine vSeq_i ?_
    | ((with_reducible apply orc_s); (focus (exact hsort; done)))
    | with_reducible first | refine vRegion_i (by kernel_rfl) ?_ | refine Kv_i ?_
    | ((with_reducible apply vStrK_i); (focus (rfl; done)))
    | ((with_reducible refine imp_i ?_); intro _)
    | with_reducible first | refine Ks_n ?_ | refine Ks_r ?_ | refine Ks_e ?_ | refine Kl_e ?_ | refine Kx_n ?_ | refine Kl_r ?_ | refine vRet_i ?_ | refine vSkip_i ?_ | refine vExit_i ?_ | refine vBlock_i ?_ | refine Ks_p ?_ | refine Kl_p ?_ | refine blk_p ?_ | exact Kb_p | refine vGoto_i ?_ | refine vLabel_i ?_ | refine Ks_g ?_ | refine Kl_g ?_ | refine blk_g ?_ | refine jmp_g ?_ | refine jmp_n ?_ | refine jmp_r ?_ | refine nog_n ?_ | refine nog_r ?_ | refine blk_n ?_ | refine blk_r ?_ | refine blk_e ?_ | refine blk_o (by decide) ?_ | refine cp_t ?_ | refine cp_f ?_
    | ((with_reducible apply vCond_x); (focus (simp only [lv, E1, E2, E5, ET, T, orc_mv, noO_mv, mvB, orc_bx, noO_bx, bxB, orc_sx, noO_sx, sxB, fwd, fwds, inv, mOk, Int.toNat_natCast, Nat.div_one, Nat.mul_one, Int.reduceToNat, SB, List.not_mem_nil, ↓reduceIte, ne_eq, reduceCtorEq, Nat.reduceLT, Nat.reduceEqDiff, Nat.reduceAdd, Nat.reduceMul, Nat.reduceLeDiff, Nat.reduceDiv, Nat.reduceMod, Nat.reduceSub, Nat.reduceBEq, List.length_map, rn_len, nts_len, cut_nts, List.length_take, List.length_drop, prs_len, ops_len, ops_cnt, prs_cnt, ops_take, cnt_two]; with_reducible first | exact Eq.refl (bo true) | exact Eq.refl (bo false))))
    | ((with_reducible refine And.intro ?_ ?_); (focus (try omega)))
  all_goals try (exfalso; omega)
  · rename_i _ q
    have hk0 : kindF l t i = 0 := by unfold kindF; split; rfl; exact q
    rw [hk0] at hnx
    simp only [show ¬ (0 : Int) = 1 by decide, show ¬ (0 : Int) = 2 by decide, if_false] at hnx
    exact Kl_n ⟨i + 1, ⟨by omega, by rw [hnx]; exact hst⟩, by omega, by simp only [Int.natCast_add, Int.natCast_one, hnx, ← hW, ← hO]⟩
  · rename_i q1 _ q2 q3 q
    have hk1 : kindF l t i = 1 := by unfold kindF; rw [if_neg (by rw [q2]; decide)]; exact q3
    rw [hk1, if_pos rfl, if_pos (by omega)] at hnx
    refine Kf_r ?_
    rw [hstp (by rw [hnx]) (by omega), hnx, ← hO]
    simp only [Try.f10, E4, E3, E2, E5, rawX, deadX, ET, T, SB, List.not_mem_nil, ↓reduceIte, ne_eq, reduceCtorEq, Nat.reduceLT, Nat.reduceEqDiff, Nat.reduceAdd, Nat.reduceMul, Nat.reduceLeDiff, Nat.reduceDiv, Nat.reduceMod, Nat.reduceSub, Nat.reduceBEq, List.length_map, rn_len, nts_len, cut_nts, List.length_take, List.length_drop, prs_len, ops_len, ops_cnt, prs_cnt, ops_take, cnt_two]
  · rename_i q1 _ q2 q3 q
    have hk1 : kindF l t i = 1 := by unfold kindF; rw [if_neg (by rw [q2]; decide)]; exact q3
    rw [hk1, if_pos rfl, if_neg (by omega)] at hnx
    exact Kl_n ⟨i + 1, ⟨by omega, by rw [hnx]⟩, by omega, by simp only [Int.natCast_add, Int.natCast_one, hnx, ops_app]⟩
  · rename_i q1 q0 q2 q3
    have hk2 : kindF l t i = 2 := by unfold kindF; rw [if_neg (by rw [q2]; decide)]; omega
    rw [hk2, if_neg (by decide), if_pos rfl] at hnx
    refine vLoop_s (fun z : Nat => [(.t 1, .t (sl (nts t))), (.t 6, .t (.p (.one (.sr 0)))), (.t 7, .t (.p (.one (.sr 1)))), (.t 8, .t (i64 i)), (.t 9, .t (i32 (l.getD i 0))), (.t 12, .t (i64 ((z : Int) - 1))), (.t 18, .t (sl (rn l))), (.t 19, .t (i64 l.length)), (.t 20, .t (i64 i)), (.row 0, .row 42 2 (prs O)), (.row 1, .row 52 2 (opsF l W))]) (fun z => z ≤ W.length ∧ fnd l W i W.length = fnd l W i z) (fun z => z) W.length ⟨by omega, rfl⟩ rfl ?_
    rintro z ⟨hz, heq⟩
    cases z with
    | zero =>
      repeat' first
        | ((first
            | ((with_reducible refine vR_cons (by decide) ?_); generalize hk : KtR _ _ _ _ _ _ _ _ _ _ = k)
            | ((first
            | with_reducible refine vOps_cons' ?_) <;> generalize hk : Kt _ _ _ _ _ _ _ _ _ = k)) <;> (simp only [Try.f10, lv, E1, E2, E5, ET, T, orc_mv, noO_mv, mvB, orc_bx, noO_bx, bxB, orc_sx, noO_sx, sxB, fwd, fwds, inv, mOk, Int.toNat_natCast, Nat.div_one, Nat.mul_one, Int.reduceToNat, SB, List.not_mem_nil, ↓reduceIte, ne_eq, reduceCtorEq, Nat.reduceLT, Nat.reduceEqDiff, Nat.reduceAdd, Nat.reduceMul, Nat.reduceLeDiff, Nat.reduceDiv, Nat.reduceMod, Nat.reduceSub, Nat.reduceBEq, List.length_map, rn_len, nts_len, cut_nts, List.length_take, List.length_drop, prs_len, ops_len, ops_cnt, prs_cnt, ops_take, cnt_two]; (try simp (disch := omega) only [wrap_in, Int.toNat_natCast, tv_rn, tv_nts, tv_ops0, tv_ops1]); subst hk))
        | with_reducible first | refine Kt_p ?_ | refine Kt_i (by kernel_rfl) ?_ | refine Kr_f (by kernel_rfl) ?_
        | (with_reducible refine Kr_t ?_; simp only [List.length_append, List.length_cons, List.length_nil, Nat.reduceAdd, Nat.reduceSub, List.drop_succ_cons, List.drop_zero])
        | with_reducible first | refine vR_nil ?_ | refine KtR_i (by kernel_rfl) ?_ | refine KrR_i (by kernel_rfl) ?_ | refine vR_skip (by decide) ?_
        | ((with_reducible refine vB_i ?_ ?_) <;> intro _ <;> (first | (exfalso; omega) | (exact absurd trivial ‹¬True›) | (try dsimp only [])))
        | ((with_reducible refine vOps_nil' ?_); refine Kr_i (by kernel_rfl) ?_; generalize hk : plain _ _ = G; simp only [lv, E3, E2, E5, rawX, deadX, SB, List.not_mem_nil, ↓reduceIte, ne_eq, reduceCtorEq, Nat.reduceLT, Nat.reduceEqDiff, Nat.reduceAdd, Nat.reduceMul, Nat.reduceLeDiff, Nat.reduceDiv, Nat.reduceMod, Nat.reduceSub, Nat.reduceBEq, List.length_map, rn_len, nts_len, cut_nts, List.length_take, List.length_drop, prs_len, ops_len, ops_cnt, prs_cnt, ops_take, cnt_two] at hk; subst hk)
        | with_reducible refine vSeq_i ?_
        | with_reducible first | refine vRegion_i (by kernel_rfl) ?_ | refine Kv_i ?_
        | ((with_reducible apply vStrK_i); (focus (rfl; done)))
        | ((with_reducible refine imp_i ?_); intro _)
        | with_reducible first | refine Ks_n ?_ | refine Ks_r ?_ | refine Ks_e ?_ | refine Kl_e ?_ | refine Kx_n ?_ | refine Kl_r ?_ | refine vRet_i ?_ | refine vSkip_i ?_ | refine vExit_i ?_ | refine vBlock_i ?_ | refine Ks_p ?_ | refine Kl_p ?_ | refine blk_p ?_ | exact Kb_p | refine vGoto_i ?_ | refine vLabel_i ?_ | refine Ks_g ?_ | refine Kl_g ?_ | refine blk_g ?_ | refine jmp_g ?_ | refine jmp_n ?_ | refine jmp_r ?_ | refine nog_n ?_ | refine nog_r ?_ | refine blk_n ?_ | refine blk_r ?_ | refine blk_e ?_ | refine blk_o (by decide) ?_ | refine cp_t ?_ | refine cp_f ?_
        | ((with_reducible apply vCond_x); (focus (simp only [lv, E1, E2, E5, ET, T, orc_mv, noO_mv, mvB, orc_bx, noO_bx, bxB, orc_sx, noO_sx, sxB, fwd, fwds, inv, mOk, Int.toNat_natCast, Nat.div_one, Nat.mul_one, Int.reduceToNat, SB, List.not_mem_nil, ↓reduceIte, ne_eq, reduceCtorEq, Nat.reduceLT, Nat.reduceEqDiff, Nat.reduceAdd, Nat.reduceMul, Nat.reduceLeDiff, Nat.reduceDiv, Nat.reduceMod, Nat.reduceSub, Nat.reduceBEq, List.length_map, rn_len, nts_len, cut_nts, List.length_take, List.length_drop, prs_len, ops_len, ops_cnt, prs_cnt, ops_take, cnt_two]; with_reducible first | exact Eq.refl (bo true) | exact Eq.refl (bo false))))
        | ((with_reducible refine And.intro ?_ ?_); (focus (try omega)))
      all_goals try (exfalso; omega)
      rw [heq] at hnx
      simp only [fnd] at hnx
      exact Kl_n ⟨i + 1, ⟨by omega, by rw [hnx]; exact hst⟩, by omega, by simp only [Int.natCast_add, Int.natCast_one, hnx, ← hW, ← hO]⟩
    | succ m =>
      rw [show (((m + 1 : Nat) : Int) - 1) = (m : Int) by omega]
      repeat' first
        | ((first
            | ((with_reducible refine vR_cons (by decide) ?_); generalize hk : KtR _ _ _ _ _ _ _ _ _ _ = k)
            | ((first
            | with_reducible refine vOps_cons' ?_
            | ((with_reducible apply orc_i); (focus (exact canon_ok _; done)))) <;> generalize hk : Kt _ _ _ _ _ _ _ _ _ = k)) <;> (simp only [Try.f10, lv, E1, E2, E5, ET, T, orc_mv, noO_mv, mvB, orc_bx, noO_bx, bxB, orc_sx, noO_sx, sxB, fwd, fwds, inv, mOk, Int.toNat_natCast, Nat.div_one, Nat.mul_one, Int.reduceToNat, SB, List.not_mem_nil, ↓reduceIte, ne_eq, reduceCtorEq, Nat.reduceLT, Nat.reduceEqDiff, Nat.reduceAdd, Nat.reduceMul, Nat.reduceLeDiff, Nat.reduceDiv, Nat.reduceMod, Nat.reduceSub, Nat.reduceBEq, List.length_map, rn_len, nts_len, cut_nts, List.length_take, List.length_drop, prs_len, ops_len, ops_cnt, prs_cnt, ops_take, cnt_two]; (try simp (disch := omega) only [wrap_in, Int.toNat_natCast, tv_rn, tv_nts, tv_ops0, tv_ops1]); subst hk))
        | with_reducible first | refine Kt_p ?_ | refine Kt_i (by kernel_rfl) ?_ | refine Kr_f (by kernel_rfl) ?_
        | (with_reducible refine Kr_t ?_; simp only [List.length_append, List.length_cons, List.length_nil, Nat.reduceAdd, Nat.reduceSub, List.drop_succ_cons, List.drop_zero])
        | with_reducible first | refine vR_nil ?_ | refine KtR_i (by kernel_rfl) ?_ | refine KrR_i (by kernel_rfl) ?_ | refine vR_skip (by decide) ?_
        | ((with_reducible refine vB_i ?_ ?_) <;> intro _ <;> (first | (exfalso; omega) | (exact absurd trivial ‹¬True›) | (try dsimp only [])))
        | ((with_reducible refine vOps_nil' ?_); refine Kr_i (by kernel_rfl) ?_; generalize hk : plain _ _ = G; simp only [lv, E3, E2, E5, rawX, deadX, SB, List.not_mem_nil, ↓reduceIte, ne_eq, reduceCtorEq, Nat.reduceLT, Nat.reduceEqDiff, Nat.reduceAdd, Nat.reduceMul, Nat.reduceLeDiff, Nat.reduceDiv, Nat.reduceMod, Nat.reduceSub, Nat.reduceBEq, List.length_map, rn_len, nts_len, cut_nts, List.length_take, List.length_drop, prs_len, ops_len, ops_cnt, prs_cnt, ops_take, cnt_two] at hk; subst hk)
        | with_reducible refine vSeq_i ?_
        | with_reducible first | refine vRegion_i (by kernel_rfl) ?_ | refine Kv_i ?_
        | ((with_reducible apply vStrK_i); (focus (rfl; done)))
        | ((with_reducible refine imp_i ?_); intro _)
        | with_reducible first | refine Ks_n ?_ | refine Ks_r ?_ | refine Ks_e ?_ | refine Kl_e ?_ | refine Kx_n ?_ | refine Kl_r ?_ | refine vRet_i ?_ | refine vSkip_i ?_ | refine vExit_i ?_ | refine vBlock_i ?_ | refine Ks_p ?_ | refine Kl_p ?_ | refine blk_p ?_ | exact Kb_p | refine vGoto_i ?_ | refine vLabel_i ?_ | refine Ks_g ?_ | refine Kl_g ?_ | refine blk_g ?_ | refine jmp_g ?_ | refine jmp_n ?_ | refine jmp_r ?_ | refine nog_n ?_ | refine nog_r ?_ | refine blk_n ?_ | refine blk_r ?_ | refine blk_e ?_ | refine blk_o (by decide) ?_ | refine cp_t ?_ | refine cp_f ?_
        | ((with_reducible apply vCond_x); (focus (simp only [lv, E1, E2, E5, ET, T, orc_mv, noO_mv, mvB, orc_bx, noO_bx, bxB, orc_sx, noO_sx, sxB, fwd, fwds, inv, mOk, Int.toNat_natCast, Nat.div_one, Nat.mul_one, Int.reduceToNat, SB, List.not_mem_nil, ↓reduceIte, ne_eq, reduceCtorEq, Nat.reduceLT, Nat.reduceEqDiff, Nat.reduceAdd, Nat.reduceMul, Nat.reduceLeDiff, Nat.reduceDiv, Nat.reduceMod, Nat.reduceSub, Nat.reduceBEq, List.length_map, rn_len, nts_len, cut_nts, List.length_take, List.length_drop, prs_len, ops_len, ops_cnt, prs_cnt, ops_take, cnt_two]; with_reducible first | exact Eq.refl (bo true) | exact Eq.refl (bo false))))
        | ((with_reducible refine And.intro ?_ ?_); (focus (try omega)))
      all_goals try (exfalso; omega)
      · rename_i q4 q5
        rw [heq] at hnx
        simp only [fnd, endsF, q5, decide_true, if_true] at hnx
        exact Kl_n ⟨i + 1, ⟨by omega, by rw [hnx]⟩, by omega, by simp only [Int.natCast_add, Int.natCast_one, hnx, prs_app]⟩
      · rename_i q4 q5
        exact Kl_n ⟨m, ⟨by omega, by rw [heq, fnd, endsF, decide_eq_false q5]; rfl⟩, by omega, rfl⟩
  · rename_i q1 q0 q2
    have hk0 : kindF l t i = 0 := by unfold kindF; rw [if_pos q2]
    rw [hk0] at hnx
    simp only [show ¬ (0 : Int) = 1 by decide, show ¬ (0 : Int) = 2 by decide, if_false] at hnx
    exact Kl_n ⟨i + 1, ⟨by omega, by rw [hnx]; exact hst⟩, by omega, by simp only [Int.natCast_add, Int.natCast_one, hnx, ← hW, ← hO]⟩
  · rename_i q
    refine Kf_r ?_
    rw [hend (by omega)]
    simp only [Try.f10, E4, E3, E2, E5, rawX, deadX, ET, T, SB, List.not_mem_nil, ↓reduceIte, ne_eq, reduceCtorEq, Nat.reduceLT, Nat.reduceEqDiff, Nat.reduceAdd, Nat.reduceMul, Nat.reduceLeDiff, Nat.reduceDiv, Nat.reduceMod, Nat.reduceSub, Nat.reduceBEq, List.length_map, rn_len, nts_len, cut_nts, List.length_take, List.length_drop, prs_len, ops_len, ops_cnt, prs_cnt, ops_take, cnt_two]
end Go.Proofs.YtncabdcaamkhiaaG
namespace Go.Proofs.YtncabdcaamkhiaaG
open Go Go.RowKit Go.Proofs
set_option linter.unusedSimpArgs false
set_option linter.unusedVariables false
def wts (W : List Nat) : List SV := W.map fun (j : Nat) => .raw (.int .i64 (j : Int))
theorem wts_len (W : List Nat) : (wts W).length = W.length := by simp [wts]
theorem wts_cnt (W : List Nat) : cnt 1 (wts W) = W.length := by unfold cnt; rw [wts_len]; omega
theorem wts_take (W : List Nat) (m : Nat) : (wts W).take m = wts (W.take m) := by simp [wts, List.map_take]
theorem wts_app (W : List Nat) (i : Nat) : wts (W ++ [i]) = wts W ++ [.raw (.int .i64 (i : Int))] := by simp [wts]
theorem tv_wts {W : List Nat} {j : Nat} (h : j < W.length) : (List.map TV.v (wts W)).getD j .dead = .v (.raw (.int .i64 ((W.getD j 0 : Nat) : Int))) := by
  simp [wts, List.getD, List.getElem?_eq_getElem h]
theorem nts_set (l : List Int) (j : Nat) (x : Int) : (nts l).set j (.raw (.int .i64 x)) = nts (l.set j x) := by simp [nts, List.map_set]
theorem nts_upd {l : List Int} {j : Nat} {x : Int} (h : j < l.length) : (nts l).take j ++ [.raw (.int .i64 x)] ++ (nts l).drop (j + 1) = nts (l.set j x) := by
  rw [← nts_set, List.set_eq_take_append_cons_drop, if_pos (by rw [nts_len]; exact h)]; simp
/-- Each opening's partner; 0: none. -/
def parN (O : List (Int × Int)) (i : Nat) : Int := match O.find? fun p => p.1 == (i : Int) with
  | some p => p.2
  | none => 0
def parL (n : Nat) (O : List (Int × Int)) : List Int := (List.range n).map (parN O)
theorem par_len (n : Nat) (O : List (Int × Int)) : (parL n O).length = n := by simp [parL]
theorem par_get {n : Nat} {O : List (Int × Int)} {i : Nat} (h : i < n) : (parL n O).getD i 0 = parN O i := by
  simp [parL, List.getD, List.getElem?_map, List.getElem?_range h]
theorem tv_par {n : Nat} {O : List (Int × Int)} {k : Nat} (h : k < n) : (List.map TV.v (nts (parL n O))).getD k .dead = .v (.raw (.int .i64 (parN O k))) := by
  rw [tv_nts (by rw [par_len]; exact h), par_get h]
theorem par_zero (n : Nat) : parL n [] = List.replicate n 0 := by
  refine List.ext_getElem (by simp [parL]) fun i h1 h2 => ?_
  simp [parL, parN]
theorem par_app {n : Nat} {O : List (Int × Int)} {a : Nat} (b : Int) (h : (a : Int) ∉ O.map (·.1)) : (parL n O).set a b = parL n (O ++ [((a : Int), b)]) := by
  refine List.ext_getElem (by simp [parL]) fun i h1 h2 => ?_
  simp only [parL, List.getElem_set, List.getElem_map, List.getElem_range, parN, List.find?_append]
  by_cases hi : a = i
  · subst hi
    rw [if_pos rfl]
    have : O.find? (fun p => p.1 == (a : Int)) = none := List.find?_eq_none.2 fun p hp q => h (List.mem_map.2 ⟨p, hp, by simpa using q⟩)
    rw [this]
    simp
  · rw [if_neg hi]
    have : ([((a : Int), b)] : List (Int × Int)).find? (fun p => p.1 == (i : Int)) = none := by
      rw [List.find?_eq_none]; intro p hp; simp only [List.mem_singleton] at hp; subst hp
      simp only [beq_iff_eq]; omega
    rw [this, Option.or_none]
theorem rising_succ (k : Nat) (O : List (Int × Int)) (hp : ∀ p ∈ O, 0 ≤ p.1 ∧ p.1 < p.2) : rising (k + 1) O = rising k O ++ (if parN O k > 0 then [((k : Int), parN O k)] else []) := by
  unfold rising parN
  rw [List.range_succ, List.filterMap_append]
  congr 1
  simp only [List.filterMap_cons, List.filterMap_nil]
  split
  · rename_i h; rw [h]; simp
  · rename_i p h
    rw [h]
    have h1 := List.find?_some h
    have h2 := hp p (List.mem_of_find?_eq_some h)
    simp only [beq_iff_eq] at h1
    simp only []
    rw [if_pos (by omega), ← h1]
theorem rising_len (k : Nat) (O : List (Int × Int)) : (rising k O).length ≤ k := by
  unfold rising
  have := List.length_filterMap_le (fun (i : Nat) => O.find? fun p => p.1 == (i : Int)) (List.range k)
  simpa using this
set_option maxRecDepth 10000 in
set_option maxHeartbeats 4000000 in
theorem refPairs_ok (l t : List Int) (hn : t.length = l.length) (hl : l.length ≤ 2000000) : CallOk Try.prog 11 [sl (rn l), sl (nts t)] (.tup [.one (.sr 0), .one (.v (.raw (.int .i64 0)))]) [(42, 2, prs (prsF l t))] true := by
  refine fn_ok' T_ok (orc_ok _) mixed Try.func11 rfl (by kernel_rfl) (lv [[0, 1], [0, 1, 17], [4, 5], [0, 1, 6], [0, 1, 6, 7], [0, 1, 6, 7, 8], [0, 1, 6, 7, 8, 24], [0, 1, 6, 7, 8], [0, 1, 6, 7, 8, 9], [0, 1, 6, 7, 8, 9, 37], [0, 1, 6, 7, 8, 9, 39], [0, 1, 6, 7, 8, 9], [0, 1, 6, 7, 8, 45], [0, 1, 6, 7, 8, 10], [0, 1, 6, 7, 8, 10, 60], [0, 1, 6, 7, 8, 10], [0, 1, 6, 7, 8, 10, 64], [0, 1, 6, 7, 8, 10], [0, 1, 6, 7, 8], [0, 6, 11], [0, 6, 11, 12], [0, 6, 11, 12, 80], [0, 6, 11, 12], [0, 6, 11, 12, 87], [0, 6, 11, 12], [4, 5]]) 98 rfl (by simp) rfl (fun _ => ⟨by simp [X.all, PX.all, TV.rawR, SV.isRaw], fun r hr => by simp only [List.mem_singleton] at hr; subst hr; exact prs_raw _⟩) ?_
  simp only [argsG, Nat.zero_add, Nat.reduceAdd]
  repeat' first
    | ((first
        | ((with_reducible refine vR_cons (by decide) ?_); generalize hk : KtR _ _ _ _ _ _ _ _ _ _ = k)
        | ((first
        | with_reducible refine vOps_cons' ?_) <;> generalize hk : Kt _ _ _ _ _ _ _ _ _ = k)) <;> (simp only [Try.f11, lv, E1, E2, E5, ET, T, orc_mv, noO_mv, mvB, orc_bx, noO_bx, bxB, orc_sx, noO_sx, sxB, fwd, fwds, inv, mOk, Int.toNat_natCast, Nat.div_one, Nat.mul_one, Int.reduceToNat, SB, List.not_mem_nil, ↓reduceIte, ne_eq, reduceCtorEq, Nat.reduceLT, Nat.reduceEqDiff, Nat.reduceAdd, Nat.reduceMul, Nat.reduceLeDiff, Nat.reduceDiv, Nat.reduceMod, Nat.reduceSub, Nat.reduceBEq, List.length_map, rn_len, nts_len, cut_nts, List.length_take, List.length_drop, prs_len, prs_cnt, wts_len, wts_cnt, wts_take, par_len, nts_set, cnt_two, Int.add_sub_cancel]; (try simp (disch := omega) only [wrap_in, Int.toNat_natCast, tv_rn, tv_nts, tv_wts, tv_par]); subst hk))
    | with_reducible first | refine Kt_p ?_ | refine Kt_i (by kernel_rfl) ?_ | refine Kr_f (by kernel_rfl) ?_
    | (with_reducible refine Kr_t ?_; simp only [List.length_append, List.length_cons, List.length_nil, Nat.reduceAdd, Nat.reduceSub, List.drop_succ_cons, List.drop_zero])
    | with_reducible first | refine vR_nil ?_ | refine KtR_i (by kernel_rfl) ?_ | refine KrR_i (by kernel_rfl) ?_ | refine vR_skip (by decide) ?_
    | ((with_reducible refine vB_i ?_ ?_) <;> intro _ <;> (first | (exfalso; omega) | (exact absurd trivial ‹¬True›) | (try dsimp only [])))
    | ((with_reducible refine vOps_nil' ?_); refine Kr_i (by kernel_rfl) ?_; generalize hk : plain _ _ = G; simp only [lv, E3, E2, E5, rawX, deadX, SB, List.not_mem_nil, ↓reduceIte, ne_eq, reduceCtorEq, Nat.reduceLT, Nat.reduceEqDiff, Nat.reduceAdd, Nat.reduceMul, Nat.reduceLeDiff, Nat.reduceDiv, Nat.reduceMod, Nat.reduceSub, Nat.reduceBEq, List.length_map, rn_len, nts_len, cut_nts, List.length_take, List.length_drop, prs_len, prs_cnt, wts_len, wts_cnt, wts_take, par_len, nts_set, cnt_two, Int.add_sub_cancel] at hk; subst hk)
    | with_reducible refine vSeq_i ?_
    | with_reducible first | refine vRegion_i (by kernel_rfl) ?_ | refine Kv_i ?_
    | ((with_reducible apply vStrK_i); (focus (rfl; done)))
    | ((with_reducible refine imp_i ?_); intro _)
    | with_reducible first | refine Ks_n ?_ | refine Ks_r ?_ | refine Ks_e ?_ | refine Kl_e ?_ | refine Kx_n ?_ | refine Kl_r ?_ | refine vRet_i ?_ | refine vSkip_i ?_ | refine vExit_i ?_ | refine vBlock_i ?_ | refine Ks_p ?_ | refine Kl_p ?_ | refine blk_p ?_ | exact Kb_p | refine vGoto_i ?_ | refine vLabel_i ?_ | refine Ks_g ?_ | refine Kl_g ?_ | refine blk_g ?_ | refine jmp_g ?_ | refine jmp_n ?_ | refine jmp_r ?_ | refine nog_n ?_ | refine nog_r ?_ | refine blk_n ?_ | refine blk_r ?_ | refine blk_e ?_ | refine blk_o (by decide) ?_ | refine cp_t ?_ | refine cp_f ?_
    | ((with_reducible apply vCond_x); (focus (simp only [lv, E1, E2, E5, ET, T, orc_mv, noO_mv, mvB, orc_bx, noO_bx, bxB, orc_sx, noO_sx, sxB, fwd, fwds, inv, mOk, Int.toNat_natCast, Nat.div_one, Nat.mul_one, Int.reduceToNat, SB, List.not_mem_nil, ↓reduceIte, ne_eq, reduceCtorEq, Nat.reduceLT, Nat.reduceEqDiff, Nat.reduceAdd, Nat.reduceMul, Nat.reduceLeDiff, Nat.reduceDiv, Nat.reduceMod, Nat.reduceSub, Nat.reduceBEq, List.length_map, rn_len, nts_len, cut_nts, List.length_take, List.length_drop, prs_len, prs_cnt, wts_len, wts_cnt, wts_take, par_len, nts_set, cnt_two, Int.add_sub_cancel]; with_reducible first | exact Eq.refl (bo true) | exact Eq.refl (bo false))))
    | ((with_reducible refine And.intro ?_ ?_); (focus (try omega)))
  all_goals try (exfalso; omega)
  refine vLoop_s (fun i : Nat => [(.t 0, .t (sl (rn l))), (.t 1, .t (sl (nts t))), (.t 6, .t (.p (.one (.sr 0)))), (.t 7, .t (.p (.one (.sr 1)))), (.t 8, .t (i64 i)), (.row 0, .row 3 1 (nts (parL l.length (stW l t i).1.2))), (.row 1, .row 3 1 (wts (stW l t i).1.1))]) (fun i => i ≤ l.length ∧ (stW l t i).2 = false) (fun i => l.length - i) 0 ⟨by omega, rfl⟩ (by simp only [stW, par_zero, nts, List.map_replicate]; rfl) ?_
  rintro i ⟨hi, hst⟩
  have hok := stW_ok l t i
  have hnx : stW l t (i + 1) = stW l t (i + 1) := rfl
  conv at hnx => rhs; rw [stW, if_neg (by rw [hst]; decide)]
  have hstp : (stW l t (i + 1)).2 = true → i < l.length → prsF l t = rising l.length (stW l t (i + 1)).1.2 := fun h1 h2 => by unfold prsF; rw [stW_stop l t h1 l.length (by omega)]
  have hend : ¬ i < l.length → prsF l t = rising l.length (stW l t i).1.2 := fun h => by unfold prsF; rw [show l.length = i by omega]
  have hOn := (List.nodup_append.1 hok.nd).2.2
  have hOp := hok.pr
  have hWm : ∀ m, m < (stW l t i).1.1.length → (stW l t i).1.1.getD m 0 < i := fun m hm => hok.lt _ (getD_mem hm)
  have hdj : ∀ m, m < (stW l t i).1.1.length → (((stW l t i).1.1.getD m 0 : Nat) : Int) ∉ (stW l t i).1.2.map (·.1) := fun m hm q => hOn _ (List.mem_map.2 ⟨_, getD_mem hm, rfl⟩) _ q rfl
  have hkr : kindF l t i = 0 ∨ kindF l t i = 1 ∨ kindF l t i = 2 := by unfold kindF; split; exact Or.inl rfl; exact br_rng _
  obtain ⟨W, hW⟩ : ∃ W, W = (stW l t i).1.1 := ⟨_, rfl⟩
  obtain ⟨O, hO⟩ : ∃ O, O = (stW l t i).1.2 := ⟨_, rfl⟩
  have hWl : W.length ≤ 63 := hW ▸ hok.len
  have hOl : O.length ≤ i := hO ▸ len_fst hok
  rw [← hO] at hend hOp
  rw [← hW] at hWm
  rw [← hW, ← hO] at hnx hdj
  rw [← hW, ← hO]
  repeat' first
    | ((first
        | ((with_reducible refine vR_cons (by decide) ?_); generalize hk : KtR _ _ _ _ _ _ _ _ _ _ = k)
        | ((first
        | with_reducible refine vOps_cons' ?_
        | ((with_reducible apply orc_i); (focus (exact kind_ok l t i (by omega) hn hl; done)))) <;> generalize hk : Kt _ _ _ _ _ _ _ _ _ = k)) <;> (simp only [Try.f11, lv, E1, E2, E5, ET, T, orc_mv, noO_mv, mvB, orc_bx, noO_bx, bxB, orc_sx, noO_sx, sxB, fwd, fwds, inv, mOk, Int.toNat_natCast, Nat.div_one, Nat.mul_one, Int.reduceToNat, SB, List.not_mem_nil, ↓reduceIte, ne_eq, reduceCtorEq, Nat.reduceLT, Nat.reduceEqDiff, Nat.reduceAdd, Nat.reduceMul, Nat.reduceLeDiff, Nat.reduceDiv, Nat.reduceMod, Nat.reduceSub, Nat.reduceBEq, List.length_map, rn_len, nts_len, cut_nts, List.length_take, List.length_drop, prs_len, prs_cnt, wts_len, wts_cnt, wts_take, par_len, nts_set, cnt_two, Int.add_sub_cancel]; (try simp (disch := omega) only [wrap_in, Int.toNat_natCast, tv_rn, tv_nts, tv_wts, tv_par]); subst hk))
    | with_reducible first | refine Kt_p ?_ | refine Kt_i (by kernel_rfl) ?_ | refine Kr_f (by kernel_rfl) ?_
    | (with_reducible refine Kr_t ?_; simp only [List.length_append, List.length_cons, List.length_nil, Nat.reduceAdd, Nat.reduceSub, List.drop_succ_cons, List.drop_zero])
    | with_reducible first | refine vR_nil ?_ | refine KtR_i (by kernel_rfl) ?_ | refine KrR_i (by kernel_rfl) ?_ | refine vR_skip (by decide) ?_
    | ((with_reducible refine vB_i ?_ ?_) <;> intro _ <;> (first | (exfalso; omega) | (exact absurd trivial ‹¬True›) | (try dsimp only [])))
    | ((with_reducible refine vOps_nil' ?_); refine Kr_i (by kernel_rfl) ?_; generalize hk : plain _ _ = G; simp only [lv, E3, E2, E5, rawX, deadX, SB, List.not_mem_nil, ↓reduceIte, ne_eq, reduceCtorEq, Nat.reduceLT, Nat.reduceEqDiff, Nat.reduceAdd, Nat.reduceMul, Nat.reduceLeDiff, Nat.reduceDiv, Nat.reduceMod, Nat.reduceSub, Nat.reduceBEq, List.length_map, rn_len, nts_len, cut_nts, List.length_take, List.length_drop, prs_len, prs_cnt, wts_len, wts_cnt, wts_take, par_len, nts_set, cnt_two, Int.add_sub_cancel] at hk; subst hk)
    | with_reducible refine vSeq_i ?_
    | with_reducible first | refine vRegion_i (by kernel_rfl) ?_ | refine Kv_i ?_
    | ((with_reducible apply vStrK_i); (focus (rfl; done)))
    | ((with_reducible refine imp_i ?_); intro _)
    | with_reducible first | refine Ks_n ?_ | refine Ks_r ?_ | refine Ks_e ?_ | refine Kl_e ?_ | refine Kx_n ?_ | refine Kl_r ?_ | refine vRet_i ?_ | refine vSkip_i ?_ | refine vExit_i ?_ | refine vBlock_i ?_ | refine Ks_p ?_ | refine Kl_p ?_ | refine blk_p ?_ | exact Kb_p | refine vGoto_i ?_ | refine vLabel_i ?_ | refine Ks_g ?_ | refine Kl_g ?_ | refine blk_g ?_ | refine jmp_g ?_ | refine jmp_n ?_ | refine jmp_r ?_ | refine nog_n ?_ | refine nog_r ?_ | refine blk_n ?_ | refine blk_r ?_ | refine blk_e ?_ | refine blk_o (by decide) ?_ | refine cp_t ?_ | refine cp_f ?_
    | ((with_reducible apply vCond_x); (focus (simp only [lv, E1, E2, E5, ET, T, orc_mv, noO_mv, mvB, orc_bx, noO_bx, bxB, orc_sx, noO_sx, sxB, fwd, fwds, inv, mOk, Int.toNat_natCast, Nat.div_one, Nat.mul_one, Int.reduceToNat, SB, List.not_mem_nil, ↓reduceIte, ne_eq, reduceCtorEq, Nat.reduceLT, Nat.reduceEqDiff, Nat.reduceAdd, Nat.reduceMul, Nat.reduceLeDiff, Nat.reduceDiv, Nat.reduceMod, Nat.reduceSub, Nat.reduceBEq, List.length_map, rn_len, nts_len, cut_nts, List.length_take, List.length_drop, prs_len, prs_cnt, wts_len, wts_cnt, wts_take, par_len, nts_set, cnt_two, Int.add_sub_cancel]; with_reducible first | exact Eq.refl (bo true) | exact Eq.refl (bo false))))
    | ((with_reducible refine And.intro ?_ ?_); (focus (try omega)))
  all_goals try (exfalso; omega)
  · rename_i q1 q2 q3
    rw [q2, if_pos rfl, if_pos (by omega)] at hnx
    rw [hstp (by rw [hnx]) (by omega), hnx, ← hO]
    clear hnx hstp hend
    refine vLoop_s (fun k : Nat => [(.t 0, .t (sl (rn l))), (.t 6, .t (.p (.one (.sr 0)))), (.t 11, .t (.p (.one (.sr 1)))), (.t 12, .t (i64 k)), (.row 0, .row 3 1 (nts (parL l.length O))), (.row 1, .row 42 2 (prs (rising k O)))]) (fun k => k ≤ l.length) (fun k => l.length - k) 0 (by omega) rfl ?_
    rintro k hk
    have hrs := rising_succ k O (fun p hp => by have := hOp p hp; omega)
    have hrl := rising_len k O
    by_cases hkl : k < l.length
    · have hpg : (parL l.length O).getD k 0 = parN O k := par_get hkl
      repeat' first
        | ((first
            | ((with_reducible refine vR_cons (by decide) ?_); generalize hk : KtR _ _ _ _ _ _ _ _ _ _ = k)
            | ((first
            | with_reducible refine vOps_cons' ?_) <;> generalize hk : Kt _ _ _ _ _ _ _ _ _ = k)) <;> (simp only [Try.f11, lv, E1, E2, E5, ET, T, orc_mv, noO_mv, mvB, orc_bx, noO_bx, bxB, orc_sx, noO_sx, sxB, fwd, fwds, inv, mOk, Int.toNat_natCast, Nat.div_one, Nat.mul_one, Int.reduceToNat, SB, List.not_mem_nil, ↓reduceIte, ne_eq, reduceCtorEq, Nat.reduceLT, Nat.reduceEqDiff, Nat.reduceAdd, Nat.reduceMul, Nat.reduceLeDiff, Nat.reduceDiv, Nat.reduceMod, Nat.reduceSub, Nat.reduceBEq, List.length_map, rn_len, nts_len, cut_nts, List.length_take, List.length_drop, prs_len, prs_cnt, wts_len, wts_cnt, wts_take, par_len, nts_set, cnt_two, Int.add_sub_cancel]; (try simp (disch := omega) only [wrap_in, Int.toNat_natCast, tv_rn, tv_nts, tv_wts, tv_par]); subst hk))
        | with_reducible first | refine Kt_p ?_ | refine Kt_i (by kernel_rfl) ?_ | refine Kr_f (by kernel_rfl) ?_
        | (with_reducible refine Kr_t ?_; simp only [List.length_append, List.length_cons, List.length_nil, Nat.reduceAdd, Nat.reduceSub, List.drop_succ_cons, List.drop_zero])
        | with_reducible first | refine vR_nil ?_ | refine KtR_i (by kernel_rfl) ?_ | refine KrR_i (by kernel_rfl) ?_ | refine vR_skip (by decide) ?_
        | ((with_reducible refine vB_i ?_ ?_) <;> intro _ <;> (first | (exfalso; omega) | (exact absurd trivial ‹¬True›) | (try dsimp only [])))
        | ((with_reducible refine vOps_nil' ?_); refine Kr_i (by kernel_rfl) ?_; generalize hk : plain _ _ = G; simp only [lv, E3, E2, E5, rawX, deadX, SB, List.not_mem_nil, ↓reduceIte, ne_eq, reduceCtorEq, Nat.reduceLT, Nat.reduceEqDiff, Nat.reduceAdd, Nat.reduceMul, Nat.reduceLeDiff, Nat.reduceDiv, Nat.reduceMod, Nat.reduceSub, Nat.reduceBEq, List.length_map, rn_len, nts_len, cut_nts, List.length_take, List.length_drop, prs_len, prs_cnt, wts_len, wts_cnt, wts_take, par_len, nts_set, cnt_two, Int.add_sub_cancel] at hk; subst hk)
        | with_reducible refine vSeq_i ?_
        | with_reducible first | refine vRegion_i (by kernel_rfl) ?_ | refine Kv_i ?_
        | ((with_reducible apply vStrK_i); (focus (rfl; done)))
        | ((with_reducible refine imp_i ?_); intro _)
        | with_reducible first | refine Ks_n ?_ | refine Ks_r ?_ | refine Ks_e ?_ | refine Kl_e ?_ | refine Kx_n ?_ | refine Kl_r ?_ | refine vRet_i ?_ | refine vSkip_i ?_ | refine vExit_i ?_ | refine vBlock_i ?_ | refine Ks_p ?_ | refine Kl_p ?_ | refine blk_p ?_ | exact Kb_p | refine vGoto_i ?_ | refine vLabel_i ?_ | refine Ks_g ?_ | refine Kl_g ?_ | refine blk_g ?_ | refine jmp_g ?_ | refine jmp_n ?_ | refine jmp_r ?_ | refine nog_n ?_ | refine nog_r ?_ | refine blk_n ?_ | refine blk_r ?_ | refine blk_e ?_ | refine blk_o (by decide) ?_ | refine cp_t ?_ | refine cp_f ?_
        | ((with_reducible apply vCond_x); (focus (simp only [lv, E1, E2, E5, ET, T, orc_mv, noO_mv, mvB, orc_bx, noO_bx, bxB, orc_sx, noO_sx, sxB, fwd, fwds, inv, mOk, Int.toNat_natCast, Nat.div_one, Nat.mul_one, Int.reduceToNat, SB, List.not_mem_nil, ↓reduceIte, ne_eq, reduceCtorEq, Nat.reduceLT, Nat.reduceEqDiff, Nat.reduceAdd, Nat.reduceMul, Nat.reduceLeDiff, Nat.reduceDiv, Nat.reduceMod, Nat.reduceSub, Nat.reduceBEq, List.length_map, rn_len, nts_len, cut_nts, List.length_take, List.length_drop, prs_len, prs_cnt, wts_len, wts_cnt, wts_take, par_len, nts_set, cnt_two, Int.add_sub_cancel]; with_reducible first | exact Eq.refl (bo true) | exact Eq.refl (bo false))))
        | ((with_reducible refine And.intro ?_ ?_); (focus (try omega)))
      all_goals try (exfalso; omega)
      · rename_i _ q
        exact Kl_n ⟨k + 1, by omega, by omega, by simp only [Int.natCast_add, Int.natCast_one, hrs, if_pos q, prs_app]⟩
      · rename_i _ q
        exact Kl_n ⟨k + 1, by omega, by omega, by simp only [Int.natCast_add, Int.natCast_one, hrs, if_neg q, List.append_nil]⟩
    · skip
      repeat' first
        | ((first
            | ((with_reducible refine vR_cons (by decide) ?_); generalize hk : KtR _ _ _ _ _ _ _ _ _ _ = k)
            | ((first
            | with_reducible refine vOps_cons' ?_) <;> generalize hk : Kt _ _ _ _ _ _ _ _ _ = k)) <;> (simp only [Try.f11, lv, E1, E2, E5, ET, T, orc_mv, noO_mv, mvB, orc_bx, noO_bx, bxB, orc_sx, noO_sx, sxB, fwd, fwds, inv, mOk, Int.toNat_natCast, Nat.div_one, Nat.mul_one, Int.reduceToNat, SB, List.not_mem_nil, ↓reduceIte, ne_eq, reduceCtorEq, Nat.reduceLT, Nat.reduceEqDiff, Nat.reduceAdd, Nat.reduceMul, Nat.reduceLeDiff, Nat.reduceDiv, Nat.reduceMod, Nat.reduceSub, Nat.reduceBEq, List.length_map, rn_len, nts_len, cut_nts, List.length_take, List.length_drop, prs_len, prs_cnt, wts_len, wts_cnt, wts_take, par_len, nts_set, cnt_two, Int.add_sub_cancel]; (try simp (disch := omega) only [wrap_in, Int.toNat_natCast, tv_rn, tv_nts, tv_wts, tv_par]); subst hk))
        | with_reducible first | refine Kt_p ?_ | refine Kt_i (by kernel_rfl) ?_ | refine Kr_f (by kernel_rfl) ?_
        | (with_reducible refine Kr_t ?_; simp only [List.length_append, List.length_cons, List.length_nil, Nat.reduceAdd, Nat.reduceSub, List.drop_succ_cons, List.drop_zero])
        | with_reducible first | refine vR_nil ?_ | refine KtR_i (by kernel_rfl) ?_ | refine KrR_i (by kernel_rfl) ?_ | refine vR_skip (by decide) ?_
        | ((with_reducible refine vB_i ?_ ?_) <;> intro _ <;> (first | (exfalso; omega) | (exact absurd trivial ‹¬True›) | (try dsimp only [])))
        | ((with_reducible refine vOps_nil' ?_); refine Kr_i (by kernel_rfl) ?_; generalize hk : plain _ _ = G; simp only [lv, E3, E2, E5, rawX, deadX, SB, List.not_mem_nil, ↓reduceIte, ne_eq, reduceCtorEq, Nat.reduceLT, Nat.reduceEqDiff, Nat.reduceAdd, Nat.reduceMul, Nat.reduceLeDiff, Nat.reduceDiv, Nat.reduceMod, Nat.reduceSub, Nat.reduceBEq, List.length_map, rn_len, nts_len, cut_nts, List.length_take, List.length_drop, prs_len, prs_cnt, wts_len, wts_cnt, wts_take, par_len, nts_set, cnt_two, Int.add_sub_cancel] at hk; subst hk)
        | with_reducible refine vSeq_i ?_
        | with_reducible first | refine vRegion_i (by kernel_rfl) ?_ | refine Kv_i ?_
        | ((with_reducible apply vStrK_i); (focus (rfl; done)))
        | ((with_reducible refine imp_i ?_); intro _)
        | with_reducible first | refine Ks_n ?_ | refine Ks_r ?_ | refine Ks_e ?_ | refine Kl_e ?_ | refine Kx_n ?_ | refine Kl_r ?_ | refine vRet_i ?_ | refine vSkip_i ?_ | refine vExit_i ?_ | refine vBlock_i ?_ | refine Ks_p ?_ | refine Kl_p ?_ | refine blk_p ?_ | exact Kb_p | refine vGoto_i ?_ | refine vLabel_i ?_ | refine Ks_g ?_ | refine Kl_g ?_ | refine blk_g ?_ | refine jmp_g ?_ | refine jmp_n ?_ | refine jmp_r ?_ | refine nog_n ?_ | refine nog_r ?_ | refine blk_n ?_ | refine blk_r ?_ | refine blk_e ?_ | refine blk_o (by decide) ?_ | refine cp_t ?_ | refine cp_f ?_
        | ((with_reducible apply vCond_x); (focus (simp only [lv, E1, E2, E5, ET, T, orc_mv, noO_mv, mvB, orc_bx, noO_bx, bxB, orc_sx, noO_sx, sxB, fwd, fwds, inv, mOk, Int.toNat_natCast, Nat.div_one, Nat.mul_one, Int.reduceToNat, SB, List.not_mem_nil, ↓reduceIte, ne_eq, reduceCtorEq, Nat.reduceLT, Nat.reduceEqDiff, Nat.reduceAdd, Nat.reduceMul, Nat.reduceLeDiff, Nat.reduceDiv, Nat.reduceMod, Nat.reduceSub, Nat.reduceBEq, List.length_map, rn_len, nts_len, cut_nts, List.length_take, List.length_drop, prs_len, prs_cnt, wts_len, wts_cnt, wts_take, par_len, nts_set, cnt_two, Int.add_sub_cancel]; with_reducible first | exact Eq.refl (bo true) | exact Eq.refl (bo false))))
        | ((with_reducible refine And.intro ?_ ?_); (focus (try omega)))
      all_goals try (exfalso; omega)
      obtain rfl : k = l.length := by omega
      refine Kf_r ?_
      simp only [Try.f11, E4, E3, E2, E5, rawX, deadX, ET, T, SB, List.not_mem_nil, ↓reduceIte, ne_eq, reduceCtorEq, Nat.reduceLT, Nat.reduceEqDiff, Nat.reduceAdd, Nat.reduceMul, Nat.reduceLeDiff, Nat.reduceDiv, Nat.reduceMod, Nat.reduceSub, Nat.reduceBEq, List.length_map, rn_len, nts_len, cut_nts, List.length_take, List.length_drop, prs_len, prs_cnt, wts_len, wts_cnt, wts_take, par_len, nts_set, cnt_two, Int.add_sub_cancel]
  · rename_i q1 q2 q3 q4 q5
    rw [q2, if_pos rfl, if_neg (by omega)] at hnx
    exact Kl_n ⟨i + 1, ⟨by omega, by rw [hnx]⟩, by omega, by simp only [Int.natCast_add, Int.natCast_one, hnx, wts_app]⟩
  · rename_i q1 q2 q3 q4
    rw [if_neg q2, if_pos q4] at hnx
    refine vLoop_s (fun z : Nat => [(.t 0, .t (sl (rn l))), (.t 1, .t (sl (nts t))), (.t 6, .t (.p (.one (.sr 0)))), (.t 7, .t (.p (.one (.sr 1)))), (.t 8, .t (i64 i)), (.t 10, .t (i64 z)), (.row 0, .row 3 1 (nts (parL l.length O))), (.row 1, .row 3 1 (wts W))]) (fun z => z ≤ W.length ∧ fnd l W i W.length = fnd l W i z) (fun z => z) W.length ⟨by omega, rfl⟩ rfl ?_
    rintro z ⟨hz, heq⟩
    cases z with
    | zero =>
      repeat' first
        | ((first
            | ((with_reducible refine vR_cons (by decide) ?_); generalize hk : KtR _ _ _ _ _ _ _ _ _ _ = k)
            | ((first
            | with_reducible refine vOps_cons' ?_) <;> generalize hk : Kt _ _ _ _ _ _ _ _ _ = k)) <;> (simp only [Try.f11, lv, E1, E2, E5, ET, T, orc_mv, noO_mv, mvB, orc_bx, noO_bx, bxB, orc_sx, noO_sx, sxB, fwd, fwds, inv, mOk, Int.toNat_natCast, Nat.div_one, Nat.mul_one, Int.reduceToNat, SB, List.not_mem_nil, ↓reduceIte, ne_eq, reduceCtorEq, Nat.reduceLT, Nat.reduceEqDiff, Nat.reduceAdd, Nat.reduceMul, Nat.reduceLeDiff, Nat.reduceDiv, Nat.reduceMod, Nat.reduceSub, Nat.reduceBEq, List.length_map, rn_len, nts_len, cut_nts, List.length_take, List.length_drop, prs_len, prs_cnt, wts_len, wts_cnt, wts_take, par_len, nts_set, cnt_two, Int.add_sub_cancel]; (try simp (disch := omega) only [wrap_in, Int.toNat_natCast, tv_rn, tv_nts, tv_wts, tv_par]); subst hk))
        | with_reducible first | refine Kt_p ?_ | refine Kt_i (by kernel_rfl) ?_ | refine Kr_f (by kernel_rfl) ?_
        | (with_reducible refine Kr_t ?_; simp only [List.length_append, List.length_cons, List.length_nil, Nat.reduceAdd, Nat.reduceSub, List.drop_succ_cons, List.drop_zero])
        | with_reducible first | refine vR_nil ?_ | refine KtR_i (by kernel_rfl) ?_ | refine KrR_i (by kernel_rfl) ?_ | refine vR_skip (by decide) ?_
        | ((with_reducible refine vB_i ?_ ?_) <;> intro _ <;> (first | (exfalso; omega) | (exact absurd trivial ‹¬True›) | (try dsimp only [])))
        | ((with_reducible refine vOps_nil' ?_); refine Kr_i (by kernel_rfl) ?_; generalize hk : plain _ _ = G; simp only [lv, E3, E2, E5, rawX, deadX, SB, List.not_mem_nil, ↓reduceIte, ne_eq, reduceCtorEq, Nat.reduceLT, Nat.reduceEqDiff, Nat.reduceAdd, Nat.reduceMul, Nat.reduceLeDiff, Nat.reduceDiv, Nat.reduceMod, Nat.reduceSub, Nat.reduceBEq, List.length_map, rn_len, nts_len, cut_nts, List.length_take, List.length_drop, prs_len, prs_cnt, wts_len, wts_cnt, wts_take, par_len, nts_set, cnt_two, Int.add_sub_cancel] at hk; subst hk)
        | with_reducible refine vSeq_i ?_
        | with_reducible first | refine vRegion_i (by kernel_rfl) ?_ | refine Kv_i ?_
        | ((with_reducible apply vStrK_i); (focus (rfl; done)))
        | ((with_reducible refine imp_i ?_); intro _)
        | with_reducible first | refine Ks_n ?_ | refine Ks_r ?_ | refine Ks_e ?_ | refine Kl_e ?_ | refine Kx_n ?_ | refine Kl_r ?_ | refine vRet_i ?_ | refine vSkip_i ?_ | refine vExit_i ?_ | refine vBlock_i ?_ | refine Ks_p ?_ | refine Kl_p ?_ | refine blk_p ?_ | exact Kb_p | refine vGoto_i ?_ | refine vLabel_i ?_ | refine Ks_g ?_ | refine Kl_g ?_ | refine blk_g ?_ | refine jmp_g ?_ | refine jmp_n ?_ | refine jmp_r ?_ | refine nog_n ?_ | refine nog_r ?_ | refine blk_n ?_ | refine blk_r ?_ | refine blk_e ?_ | refine blk_o (by decide) ?_ | refine cp_t ?_ | refine cp_f ?_
        | ((with_reducible apply vCond_x); (focus (simp only [lv, E1, E2, E5, ET, T, orc_mv, noO_mv, mvB, orc_bx, noO_bx, bxB, orc_sx, noO_sx, sxB, fwd, fwds, inv, mOk, Int.toNat_natCast, Nat.div_one, Nat.mul_one, Int.reduceToNat, SB, List.not_mem_nil, ↓reduceIte, ne_eq, reduceCtorEq, Nat.reduceLT, Nat.reduceEqDiff, Nat.reduceAdd, Nat.reduceMul, Nat.reduceLeDiff, Nat.reduceDiv, Nat.reduceMod, Nat.reduceSub, Nat.reduceBEq, List.length_map, rn_len, nts_len, cut_nts, List.length_take, List.length_drop, prs_len, prs_cnt, wts_len, wts_cnt, wts_take, par_len, nts_set, cnt_two, Int.add_sub_cancel]; with_reducible first | exact Eq.refl (bo true) | exact Eq.refl (bo false))))
        | ((with_reducible refine And.intro ?_ ?_); (focus (try omega)))
      all_goals try (exfalso; omega)
      rw [heq] at hnx
      simp only [fnd] at hnx
      exact Kl_n ⟨i + 1, ⟨by omega, by rw [hnx]; exact hst⟩, by omega, by simp only [Int.natCast_add, Int.natCast_one, hnx, ← hW, ← hO]⟩
    | succ m =>
      have hw := hWm m (by omega)
      have hd := hdj m (by omega)
      have hpa := par_app (n := l.length) (i : Int) hd
      have hpu := nts_upd (l := parL l.length O) (x := (i : Int)) (j := W.getD m 0) (by rw [par_len]; omega)
      rw [show (((m + 1 : Nat) : Int)) = (m : Int) + 1 by omega]
      repeat' first
        | ((first
            | ((with_reducible refine vR_cons (by decide) ?_); generalize hk : KtR _ _ _ _ _ _ _ _ _ _ = k)
            | ((first
            | with_reducible refine vOps_cons' ?_
            | ((with_reducible apply orc_b); (focus (exact ends_ok l _ i (by omega) (by omega) hl; done)); (all_goals (intro hb; (try simp only [decide_eq_true_eq, decide_eq_false_iff_not, Bool.not_eq_true', Bool.not_eq_false', Bool.and_eq_true, Decidable.not_not] at hb))))) <;> generalize hk : Kt _ _ _ _ _ _ _ _ _ = k)) <;> (simp only [Try.f11, lv, E1, E2, E5, ET, T, orc_mv, noO_mv, mvB, orc_bx, noO_bx, bxB, orc_sx, noO_sx, sxB, fwd, fwds, inv, mOk, Int.toNat_natCast, Nat.div_one, Nat.mul_one, Int.reduceToNat, SB, List.not_mem_nil, ↓reduceIte, ne_eq, reduceCtorEq, Nat.reduceLT, Nat.reduceEqDiff, Nat.reduceAdd, Nat.reduceMul, Nat.reduceLeDiff, Nat.reduceDiv, Nat.reduceMod, Nat.reduceSub, Nat.reduceBEq, List.length_map, rn_len, nts_len, cut_nts, List.length_take, List.length_drop, prs_len, prs_cnt, wts_len, wts_cnt, wts_take, par_len, nts_set, cnt_two, Int.add_sub_cancel]; (try simp (disch := omega) only [wrap_in, Int.toNat_natCast, tv_rn, tv_nts, tv_wts, tv_par]); subst hk))
        | with_reducible first | refine Kt_p ?_ | refine Kt_i (by kernel_rfl) ?_ | refine Kr_f (by kernel_rfl) ?_
        | (with_reducible refine Kr_t ?_; simp only [List.length_append, List.length_cons, List.length_nil, Nat.reduceAdd, Nat.reduceSub, List.drop_succ_cons, List.drop_zero])
        | with_reducible first | refine vR_nil ?_ | refine KtR_i (by kernel_rfl) ?_ | refine KrR_i (by kernel_rfl) ?_ | refine vR_skip (by decide) ?_
        | ((with_reducible refine vB_i ?_ ?_) <;> intro _ <;> (first | (exfalso; omega) | (exact absurd trivial ‹¬True›) | (try dsimp only [])))
        | ((with_reducible refine vOps_nil' ?_); refine Kr_i (by kernel_rfl) ?_; generalize hk : plain _ _ = G; simp only [lv, E3, E2, E5, rawX, deadX, SB, List.not_mem_nil, ↓reduceIte, ne_eq, reduceCtorEq, Nat.reduceLT, Nat.reduceEqDiff, Nat.reduceAdd, Nat.reduceMul, Nat.reduceLeDiff, Nat.reduceDiv, Nat.reduceMod, Nat.reduceSub, Nat.reduceBEq, List.length_map, rn_len, nts_len, cut_nts, List.length_take, List.length_drop, prs_len, prs_cnt, wts_len, wts_cnt, wts_take, par_len, nts_set, cnt_two, Int.add_sub_cancel] at hk; subst hk)
        | with_reducible refine vSeq_i ?_
        | with_reducible first | refine vRegion_i (by kernel_rfl) ?_ | refine Kv_i ?_
        | ((with_reducible apply vStrK_i); (focus (rfl; done)))
        | ((with_reducible refine imp_i ?_); intro _)
        | with_reducible first | refine Ks_n ?_ | refine Ks_r ?_ | refine Ks_e ?_ | refine Kl_e ?_ | refine Kx_n ?_ | refine Kl_r ?_ | refine vRet_i ?_ | refine vSkip_i ?_ | refine vExit_i ?_ | refine vBlock_i ?_ | refine Ks_p ?_ | refine Kl_p ?_ | refine blk_p ?_ | exact Kb_p | refine vGoto_i ?_ | refine vLabel_i ?_ | refine Ks_g ?_ | refine Kl_g ?_ | refine blk_g ?_ | refine jmp_g ?_ | refine jmp_n ?_ | refine jmp_r ?_ | refine nog_n ?_ | refine nog_r ?_ | refine blk_n ?_ | refine blk_r ?_ | refine blk_e ?_ | refine blk_o (by decide) ?_ | refine cp_t ?_ | refine cp_f ?_
        | ((with_reducible apply vCond_x); (focus (simp only [lv, E1, E2, E5, ET, T, orc_mv, noO_mv, mvB, orc_bx, noO_bx, bxB, orc_sx, noO_sx, sxB, fwd, fwds, inv, mOk, Int.toNat_natCast, Nat.div_one, Nat.mul_one, Int.reduceToNat, SB, List.not_mem_nil, ↓reduceIte, ne_eq, reduceCtorEq, Nat.reduceLT, Nat.reduceEqDiff, Nat.reduceAdd, Nat.reduceMul, Nat.reduceLeDiff, Nat.reduceDiv, Nat.reduceMod, Nat.reduceSub, Nat.reduceBEq, List.length_map, rn_len, nts_len, cut_nts, List.length_take, List.length_drop, prs_len, prs_cnt, wts_len, wts_cnt, wts_take, par_len, nts_set, cnt_two, Int.add_sub_cancel]; with_reducible first | exact Eq.refl (bo true) | exact Eq.refl (bo false))))
        | ((with_reducible refine And.intro ?_ ?_); (focus (try omega)))
      all_goals try (exfalso; omega)
      · rw [heq] at hnx
        simp only [fnd, hb, if_true] at hnx
        exact Kl_n ⟨i + 1, ⟨by omega, by rw [hnx]⟩, by omega, by simp only [Int.natCast_add, Int.natCast_one, hnx, hpu, hpa]⟩
      · exact Kl_n ⟨m, ⟨by omega, by rw [heq, fnd, hb]; rfl⟩, by omega, rfl⟩
  · rename_i q1 q2 q3 q4
    rw [if_neg q2, if_neg q4] at hnx
    exact Kl_n ⟨i + 1, ⟨by omega, by rw [hnx]; exact hst⟩, by omega, by simp only [Int.natCast_add, Int.natCast_one, hnx, ← hW, ← hO]⟩
  · rename_i q1
    rw [hend (by omega)]
    clear hnx hstp hend
    refine vLoop_s (fun k : Nat => [(.t 0, .t (sl (rn l))), (.t 6, .t (.p (.one (.sr 0)))), (.t 11, .t (.p (.one (.sr 1)))), (.t 12, .t (i64 k)), (.row 0, .row 3 1 (nts (parL l.length O))), (.row 1, .row 42 2 (prs (rising k O)))]) (fun k => k ≤ l.length) (fun k => l.length - k) 0 (by omega) rfl ?_
    rintro k hk
    have hrs := rising_succ k O (fun p hp => by have := hOp p hp; omega)
    have hrl := rising_len k O
    by_cases hkl : k < l.length
    · have hpg : (parL l.length O).getD k 0 = parN O k := par_get hkl
      repeat' first
        | ((first
            | ((with_reducible refine vR_cons (by decide) ?_); generalize hk : KtR _ _ _ _ _ _ _ _ _ _ = k)
            | ((first
            | with_reducible refine vOps_cons' ?_) <;> generalize hk : Kt _ _ _ _ _ _ _ _ _ = k)) <;> (simp only [Try.f11, lv, E1, E2, E5, ET, T, orc_mv, noO_mv, mvB, orc_bx, noO_bx, bxB, orc_sx, noO_sx, sxB, fwd, fwds, inv, mOk, Int.toNat_natCast, Nat.div_one, Nat.mul_one, Int.reduceToNat, SB, List.not_mem_nil, ↓reduceIte, ne_eq, reduceCtorEq, Nat.reduceLT, Nat.reduceEqDiff, Nat.reduceAdd, Nat.reduceMul, Nat.reduceLeDiff, Nat.reduceDiv, Nat.reduceMod, Nat.reduceSub, Nat.reduceBEq, List.length_map, rn_len, nts_len, cut_nts, List.length_take, List.length_drop, prs_len, prs_cnt, wts_len, wts_cnt, wts_take, par_len, nts_set, cnt_two, Int.add_sub_cancel]; (try simp (disch := omega) only [wrap_in, Int.toNat_natCast, tv_rn, tv_nts, tv_wts, tv_par]); subst hk))
        | with_reducible first | refine Kt_p ?_ | refine Kt_i (by kernel_rfl) ?_ | refine Kr_f (by kernel_rfl) ?_
        | (with_reducible refine Kr_t ?_; simp only [List.length_append, List.length_cons, List.length_nil, Nat.reduceAdd, Nat.reduceSub, List.drop_succ_cons, List.drop_zero])
        | with_reducible first | refine vR_nil ?_ | refine KtR_i (by kernel_rfl) ?_ | refine KrR_i (by kernel_rfl) ?_ | refine vR_skip (by decide) ?_
        | ((with_reducible refine vB_i ?_ ?_) <;> intro _ <;> (first | (exfalso; omega) | (exact absurd trivial ‹¬True›) | (try dsimp only [])))
        | ((with_reducible refine vOps_nil' ?_); refine Kr_i (by kernel_rfl) ?_; generalize hk : plain _ _ = G; simp only [lv, E3, E2, E5, rawX, deadX, SB, List.not_mem_nil, ↓reduceIte, ne_eq, reduceCtorEq, Nat.reduceLT, Nat.reduceEqDiff, Nat.reduceAdd, Nat.reduceMul, Nat.reduceLeDiff, Nat.reduceDiv, Nat.reduceMod, Nat.reduceSub, Nat.reduceBEq, List.length_map, rn_len, nts_len, cut_nts, List.length_take, List.length_drop, prs_len, prs_cnt, wts_len, wts_cnt, wts_take, par_len, nts_set, cnt_two, Int.add_sub_cancel] at hk; subst hk)
        | with_reducible refine vSeq_i ?_
        | with_reducible first | refine vRegion_i (by kernel_rfl) ?_ | refine Kv_i ?_
        | ((with_reducible apply vStrK_i); (focus (rfl; done)))
        | ((with_reducible refine imp_i ?_); intro _)
        | with_reducible first | refine Ks_n ?_ | refine Ks_r ?_ | refine Ks_e ?_ | refine Kl_e ?_ | refine Kx_n ?_ | refine Kl_r ?_ | refine vRet_i ?_ | refine vSkip_i ?_ | refine vExit_i ?_ | refine vBlock_i ?_ | refine Ks_p ?_ | refine Kl_p ?_ | refine blk_p ?_ | exact Kb_p | refine vGoto_i ?_ | refine vLabel_i ?_ | refine Ks_g ?_ | refine Kl_g ?_ | refine blk_g ?_ | refine jmp_g ?_ | refine jmp_n ?_ | refine jmp_r ?_ | refine nog_n ?_ | refine nog_r ?_ | refine blk_n ?_ | refine blk_r ?_ | refine blk_e ?_ | refine blk_o (by decide) ?_ | refine cp_t ?_ | refine cp_f ?_
        | ((with_reducible apply vCond_x); (focus (simp only [lv, E1, E2, E5, ET, T, orc_mv, noO_mv, mvB, orc_bx, noO_bx, bxB, orc_sx, noO_sx, sxB, fwd, fwds, inv, mOk, Int.toNat_natCast, Nat.div_one, Nat.mul_one, Int.reduceToNat, SB, List.not_mem_nil, ↓reduceIte, ne_eq, reduceCtorEq, Nat.reduceLT, Nat.reduceEqDiff, Nat.reduceAdd, Nat.reduceMul, Nat.reduceLeDiff, Nat.reduceDiv, Nat.reduceMod, Nat.reduceSub, Nat.reduceBEq, List.length_map, rn_len, nts_len, cut_nts, List.length_take, List.length_drop, prs_len, prs_cnt, wts_len, wts_cnt, wts_take, par_len, nts_set, cnt_two, Int.add_sub_cancel]; with_reducible first | exact Eq.refl (bo true) | exact Eq.refl (bo false))))
        | ((with_reducible refine And.intro ?_ ?_); (focus (try omega)))
      all_goals try (exfalso; omega)
      · rename_i _ q
        exact Kl_n ⟨k + 1, by omega, by omega, by simp only [Int.natCast_add, Int.natCast_one, hrs, if_pos q, prs_app]⟩
      · rename_i _ q
        exact Kl_n ⟨k + 1, by omega, by omega, by simp only [Int.natCast_add, Int.natCast_one, hrs, if_neg q, List.append_nil]⟩
    · skip
      repeat' first
        | ((first
            | ((with_reducible refine vR_cons (by decide) ?_); generalize hk : KtR _ _ _ _ _ _ _ _ _ _ = k)
            | ((first
            | with_reducible refine vOps_cons' ?_) <;> generalize hk : Kt _ _ _ _ _ _ _ _ _ = k)) <;> (simp only [Try.f11, lv, E1, E2, E5, ET, T, orc_mv, noO_mv, mvB, orc_bx, noO_bx, bxB, orc_sx, noO_sx, sxB, fwd, fwds, inv, mOk, Int.toNat_natCast, Nat.div_one, Nat.mul_one, Int.reduceToNat, SB, List.not_mem_nil, ↓reduceIte, ne_eq, reduceCtorEq, Nat.reduceLT, Nat.reduceEqDiff, Nat.reduceAdd, Nat.reduceMul, Nat.reduceLeDiff, Nat.reduceDiv, Nat.reduceMod, Nat.reduceSub, Nat.reduceBEq, List.length_map, rn_len, nts_len, cut_nts, List.length_take, List.length_drop, prs_len, prs_cnt, wts_len, wts_cnt, wts_take, par_len, nts_set, cnt_two, Int.add_sub_cancel]; (try simp (disch := omega) only [wrap_in, Int.toNat_natCast, tv_rn, tv_nts, tv_wts, tv_par]); subst hk))
        | with_reducible first | refine Kt_p ?_ | refine Kt_i (by kernel_rfl) ?_ | refine Kr_f (by kernel_rfl) ?_
        | (with_reducible refine Kr_t ?_; simp only [List.length_append, List.length_cons, List.length_nil, Nat.reduceAdd, Nat.reduceSub, List.drop_succ_cons, List.drop_zero])
        | with_reducible first | refine vR_nil ?_ | refine KtR_i (by kernel_rfl) ?_ | refine KrR_i (by kernel_rfl) ?_ | refine vR_skip (by decide) ?_
        | ((with_reducible refine vB_i ?_ ?_) <;> intro _ <;> (first | (exfalso; omega) | (exact absurd trivial ‹¬True›) | (try dsimp only [])))
        | ((with_reducible refine vOps_nil' ?_); refine Kr_i (by kernel_rfl) ?_; generalize hk : plain _ _ = G; simp only [lv, E3, E2, E5, rawX, deadX, SB, List.not_mem_nil, ↓reduceIte, ne_eq, reduceCtorEq, Nat.reduceLT, Nat.reduceEqDiff, Nat.reduceAdd, Nat.reduceMul, Nat.reduceLeDiff, Nat.reduceDiv, Nat.reduceMod, Nat.reduceSub, Nat.reduceBEq, List.length_map, rn_len, nts_len, cut_nts, List.length_take, List.length_drop, prs_len, prs_cnt, wts_len, wts_cnt, wts_take, par_len, nts_set, cnt_two, Int.add_sub_cancel] at hk; subst hk)
        | with_reducible refine vSeq_i ?_
        | with_reducible first | refine vRegion_i (by kernel_rfl) ?_ | refine Kv_i ?_
        | ((with_reducible apply vStrK_i); (focus (rfl; done)))
        | ((with_reducible refine imp_i ?_); intro _)
        | with_reducible first | refine Ks_n ?_ | refine Ks_r ?_ | refine Ks_e ?_ | refine Kl_e ?_ | refine Kx_n ?_ | refine Kl_r ?_ | refine vRet_i ?_ | refine vSkip_i ?_ | refine vExit_i ?_ | refine vBlock_i ?_ | refine Ks_p ?_ | refine Kl_p ?_ | refine blk_p ?_ | exact Kb_p | refine vGoto_i ?_ | refine vLabel_i ?_ | refine Ks_g ?_ | refine Kl_g ?_ | refine blk_g ?_ | refine jmp_g ?_ | refine jmp_n ?_ | refine jmp_r ?_ | refine nog_n ?_ | refine nog_r ?_ | refine blk_n ?_ | refine blk_r ?_ | refine blk_e ?_ | refine blk_o (by decide) ?_ | refine cp_t ?_ | refine cp_f ?_
        | ((with_reducible apply vCond_x); (focus (simp only [lv, E1, E2, E5, ET, T, orc_mv, noO_mv, mvB, orc_bx, noO_bx, bxB, orc_sx, noO_sx, sxB, fwd, fwds, inv, mOk, Int.toNat_natCast, Nat.div_one, Nat.mul_one, Int.reduceToNat, SB, List.not_mem_nil, ↓reduceIte, ne_eq, reduceCtorEq, Nat.reduceLT, Nat.reduceEqDiff, Nat.reduceAdd, Nat.reduceMul, Nat.reduceLeDiff, Nat.reduceDiv, Nat.reduceMod, Nat.reduceSub, Nat.reduceBEq, List.length_map, rn_len, nts_len, cut_nts, List.length_take, List.length_drop, prs_len, prs_cnt, wts_len, wts_cnt, wts_take, par_len, nts_set, cnt_two, Int.add_sub_cancel]; with_reducible first | exact Eq.refl (bo true) | exact Eq.refl (bo false))))
        | ((with_reducible refine And.intro ?_ ?_); (focus (try omega)))
      all_goals try (exfalso; omega)
      obtain rfl : k = l.length := by omega
      refine Kf_r ?_
      simp only [Try.f11, E4, E3, E2, E5, rawX, deadX, ET, T, SB, List.not_mem_nil, ↓reduceIte, ne_eq, reduceCtorEq, Nat.reduceLT, Nat.reduceEqDiff, Nat.reduceAdd, Nat.reduceMul, Nat.reduceLeDiff, Nat.reduceDiv, Nat.reduceMod, Nat.reduceSub, Nat.reduceBEq, List.length_map, rn_len, nts_len, cut_nts, List.length_take, List.length_drop, prs_len, prs_cnt, wts_len, wts_cnt, wts_take, par_len, nts_set, cnt_two, Int.add_sub_cancel]
end Go.Proofs.YtncabdcaamkhiaaG
