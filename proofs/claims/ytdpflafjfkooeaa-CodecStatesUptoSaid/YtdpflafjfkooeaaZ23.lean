/- YtdpflafjfkooeaaZ23: a part of the proof, joined of its texts. -/
import Derived.Test.YtdpflafjfkooeaaZ22
namespace Go.Proofs.YtdpflafjfkooeaaG
open Go Go.RowKit Go.Proofs Go.Proofs.YtdpflafjfkooeaaG.Dec
set_option linter.unusedSimpArgs false
set_option linter.unusedVariables false
theorem BytN.mono {n m : Nat} {xs : List Int} (g : BytN n xs) (h : n ≤ m) : BytN m xs := ⟨g.bytes, Nat.le_trans g.len h⟩
theorem chTxt_ok {c : Ch} (h : ChTxt 100000 c) : c.ok := ⟨h.gone.len, h.came.len, h.gone.run, h.came.run⟩
theorem RR.bind_ok {α β : Type} {r : RR α} {f : α → List Int → RR β} {b : β} {rest : List Int} (h : r.bind f = .ok b rest) : ∃ a r1, r = .ok a r1 ∧ f a r1 = .ok b rest := by
  cases r with
  | ok a r1 => exact ⟨a, r1, rfl, h⟩
  | bad e => cases h
theorem readSt_ok {xs rest : List Int} {c : Int} {s : St} (g : BytN 100000 xs) (h : readSt xs = .ok (c, s) rest) : s.ok := by
  obtain ⟨a1, r1, q1, h⟩ := RR.bind_ok h
  obtain ⟨a2, r2, q2, h⟩ := RR.bind_ok h
  obtain ⟨a3, r3, q3, h⟩ := RR.bind_ok h
  obtain ⟨a4, r4, q4, h⟩ := RR.bind_ok h
  obtain ⟨a5, r5, q5, h⟩ := RR.bind_ok h
  obtain ⟨a6, r6, q6, h⟩ := RR.bind_ok h
  cases h
  have g1 := num_good q1 g
  have g2 := num_good q2 g1
  have t3 := text_txt q3 g2
  have g3 := text_good q3 g2
  obtain ⟨g4, l4, t4⟩ := chs_rest q4 g3
  obtain ⟨g5, l5, t5⟩ := chs_rest q5 g4
  exact ⟨t3.len, t3.run, fun c hc => chTxt_ok (t4 c hc), fun c hc => chTxt_ok (t5 c hc), by show a4.length ≤ _; omega, by show a5.length ≤ _; omega⟩
theorem RR.bind_bad {α β : Type} {r : RR α} {f : α → List Int → RR β} {e : Int} (h : r.bind f = .bad e) : r = .bad e ∨ ∃ a r1, r = .ok a r1 ∧ f a r1 = .bad e := by
  cases r with
  | ok a r1 => exact .inr ⟨a, r1, rfl, h⟩
  | bad e' =>
    have h' : (RR.bad e' : RR β) = .bad e := h
    cases h'
    exact .inl rfl
theorem num_e {xs : List Int} {e : Int} (h : readNum xs = .bad e) : e ≠ 0 := by
  unfold readNum at h
  repeat' split at h
  all_goals first | (cases h; done) | (cases h; omega)
theorem text_e {xs : List Int} {n e : Int} (h : readText n xs = .bad e) : e ≠ 0 := by
  unfold readText at h
  repeat' split at h
  all_goals first | (cases h; done) | (cases h; omega) | (cases h; assumption)
theorem ch_e {xs : List Int} {e : Int} (h : readCh xs = .bad e) : e ≠ 0 := by
  unfold readCh at h
  repeat' split at h
  all_goals first | (cases h; done) | (cases h; omega) | (cases h; assumption)
theorem n_e : ∀ {k : Nat} {xs : List Int} {e : Int}, readN k xs = .bad e → e ≠ 0
  | 0, xs, e, h => by simp only [readN] at h; cases h
  | k + 1, xs, e, h => by
    simp only [readN] at h
    split at h
    · rename_i c r1 h1
      cases h2 : readN k r1 with
      | bad e2 => rw [h2] at h; cases h; exact n_e h2
      | ok l2 r2 => rw [h2] at h; cases h
    · rename_i h1
      cases h
      exact ch_e h1
theorem chs_e {xs : List Int} {e : Int} (h : readChs xs = .bad e) : e ≠ 0 := by
  unfold readChs at h
  split at h
  · cases h; omega
  · exact n_e h
theorem end_e {xs : List Int} {e : Int} (h : readEnd xs = .bad e) : e ≠ 0 := by
  unfold readEnd at h
  split at h
  · cases h
  · cases h; omega
theorem readSt_e {xs : List Int} {e : Int} (h : readSt xs = .bad e) : e ≠ 0 := by
  rcases RR.bind_bad h with h | ⟨a1, r1, q1, h⟩
  · exact num_e h
  rcases RR.bind_bad h with h | ⟨a2, r2, q2, h⟩
  · exact num_e h
  rcases RR.bind_bad h with h | ⟨a3, r3, q3, h⟩
  · exact text_e h
  rcases RR.bind_bad h with h | ⟨a4, r4, q4, h⟩
  · exact chs_e h
  rcases RR.bind_bad h with h | ⟨a5, r5, q5, h⟩
  · exact chs_e h
  rcases RR.bind_bad h with h | ⟨a6, r6, q6, h⟩
  · exact end_e h
  cases h
/-- What a reading of a state comes to. -/
def readStF (xs : List Int) : Int × St × Int := match readSt xs with
  | .ok p _ => if rightF p.2 = 0 then (p.1, p.2, 0) else (0, st00, rightF p.2)
  | .bad e => (0, st00, e)
def stE (p : Int × St × Int) : X := .tup [.one (.v (.raw (.int .i64 p.1))), .agg p.2.1.cs, .one (.v (.raw (.int .i64 p.2.2)))]
set_option maxRecDepth 10000 in
set_option maxHeartbeats 16000000 in
theorem readState_ok' (xs : List Int) (g' : BytN 30000000000000 xs) (hS : ∀ c s rest, readSt xs = .ok (c, s) rest → s.ok) : CallOk Try.prog 29 [sl (bs xs)] (stE (readStF xs)) [] false := by
  cases hro : readSt xs with
  | ok p rest =>
    obtain ⟨c, s⟩ := p
    have hw := caught_okR (hs := [0, 1, 2]) (rst1_ok xs g' c s rest hro)
    have hR := right_ok goes_ok s (hS _ _ _ hro)
    rw [show readStF xs = if rightF s = 0 then (c, s, 0) else (0, st00, rightF s) by rw [readStF, hro]]
    split
    · rename_i h0
      refine fn_ok' T_ok (orc_ok _) mixed Try.func29 rfl (by kernel_rfl) (lv [[0, 2, 3], [2, 3, 5], [2, 3, 4], [2, 3, 4, 12], [2, 3, 4], [2, 3, 4, 16], [2, 3, 4, 1000003], [2, 3, 4, 1000003]]) 21 rfl (by simp) rfl (by simp) ?_
      simp only [argsG, Nat.zero_add, Nat.reduceAdd, St.cs, st00, St.x] at *
      repeat' first
        | ((first
            | ((with_reducible refine vR_cons (by decide) ?_); generalize hk : KtR _ _ _ _ _ _ _ _ _ _ = k)
            | ((first
            | with_reducible refine vOps_cons' ?_
            | ((with_reducible apply orc_bc); (focus (exact hw; done)))
            | ((with_reducible apply orc_i); (focus (exact hR; done)))) <;> generalize hk : Kt _ _ _ _ _ _ _ _ _ = k)) <;> (simp only [Try.f29, lv, E1, E2, E5, ET, T, orc_mv, noO_mv, mvB, orc_bx, noO_bx, bxB, fwd, fwds, inv, mOk, Int.toNat_natCast, Nat.div_one, Nat.mul_one, Int.reduceToNat, SB, List.not_mem_nil, ↓reduceIte, ne_eq, reduceCtorEq, Nat.reduceLT, Nat.reduceEqDiff, Nat.reduceAdd, Nat.reduceMul, Nat.reduceLeDiff, Nat.reduceDiv, Nat.reduceMod, Nat.reduceSub, Nat.reduceBEq, List.length_map, bs_len, rn_len, chs_len, chs_cnt, Int.sub_zero, Int.toNat_natCast, Int.reduceToNat, Int.natCast_zero]; (try simp (disch := omega) only [wrap_in, Int.toNat_natCast, tv_rn, tv_bst]); subst hk))
        | with_reducible first | refine Kt_p ?_ | refine Kt_i (by kernel_rfl) ?_ | refine Kr_f (by kernel_rfl) ?_
        | (with_reducible refine Kr_t ?_; simp only [List.length_append, List.length_cons, List.length_nil, Nat.reduceAdd, Nat.reduceSub, List.drop_succ_cons, List.drop_zero])
        | with_reducible first | refine vR_nil ?_ | refine KtR_i (by kernel_rfl) ?_ | refine KrR_i (by kernel_rfl) ?_ | refine vR_skip (by decide) ?_
        | ((with_reducible refine vB_i ?_ ?_) <;> intro _ <;> (first | (exfalso; omega) | (exact absurd trivial ‹¬True›) | (try dsimp only [])))
        | ((with_reducible refine vOps_nil' ?_); refine Kr_i (by kernel_rfl) ?_; generalize hk : plain _ _ = G; simp only [lv, E3, E2, E5, rawX, deadX, SB, List.not_mem_nil, ↓reduceIte, ne_eq, reduceCtorEq, Nat.reduceLT, Nat.reduceEqDiff, Nat.reduceAdd, Nat.reduceMul, Nat.reduceLeDiff, Nat.reduceDiv, Nat.reduceMod, Nat.reduceSub, Nat.reduceBEq, List.length_map, bs_len, rn_len, chs_len, chs_cnt, Int.sub_zero, Int.toNat_natCast, Int.reduceToNat, Int.natCast_zero] at hk; subst hk)
        | with_reducible refine vSeq_i ?_
        | with_reducible first | refine vRegion_i (by kernel_rfl) ?_ | refine Kv_i ?_
        | ((with_reducible apply vStrK_i); (focus (rfl; done)))
        | ((with_reducible refine imp_i ?_); intro _)
        | with_reducible first | refine Ks_n ?_ | refine Ks_r ?_ | refine Ks_e ?_ | refine Kl_e ?_ | refine Kx_n ?_ | refine Kl_r ?_ | refine vRet_i ?_ | refine vSkip_i ?_ | refine vExit_i ?_ | refine vBlock_i ?_ | refine Ks_p ?_ | refine Kl_p ?_ | refine blk_p ?_ | exact Kb_p | refine vGoto_i ?_ | refine vLabel_i ?_ | refine Ks_g ?_ | refine Kl_g ?_ | refine blk_g ?_ | refine jmp_g ?_ | refine jmp_n ?_ | refine jmp_r ?_ | refine nog_n ?_ | refine nog_r ?_ | refine blk_n ?_ | refine blk_r ?_ | refine blk_e ?_ | refine blk_o (by decide) ?_ | refine cp_t ?_ | refine cp_f ?_
        | ((with_reducible apply vCond_x); (focus (simp only [lv, E1, E2, E5, ET, T, orc_mv, noO_mv, mvB, orc_bx, noO_bx, bxB, fwd, fwds, inv, mOk, Int.toNat_natCast, Nat.div_one, Nat.mul_one, Int.reduceToNat, SB, List.not_mem_nil, ↓reduceIte, ne_eq, reduceCtorEq, Nat.reduceLT, Nat.reduceEqDiff, Nat.reduceAdd, Nat.reduceMul, Nat.reduceLeDiff, Nat.reduceDiv, Nat.reduceMod, Nat.reduceSub, Nat.reduceBEq, List.length_map, bs_len, rn_len, chs_len, chs_cnt, Int.sub_zero, Int.toNat_natCast, Int.reduceToNat, Int.natCast_zero]; with_reducible first | exact Eq.refl (bo true) | exact Eq.refl (bo false))))
        | ((with_reducible refine And.intro ?_ ?_); (focus (try omega)))
      refine Kf_r ?_
      simp only [Try.f29, E4, E3, E2, E5, rawX, deadX, ET, T, SB, List.not_mem_nil, ↓reduceIte, ne_eq, reduceCtorEq, Nat.reduceLT, Nat.reduceEqDiff, Nat.reduceAdd, Nat.reduceMul, Nat.reduceLeDiff, Nat.reduceDiv, Nat.reduceMod, Nat.reduceSub, Nat.reduceBEq, List.length_map, bs_len, rn_len, chs_len, chs_cnt, Int.sub_zero, Int.toNat_natCast, Int.reduceToNat, Int.natCast_zero, stE, St.cs, st00]
    · rename_i h0
      refine fn_ok' T_ok (orc_ok _) mixed Try.func29 rfl (by kernel_rfl) (lv [[0, 2, 3], [2, 3, 5], [2, 3, 4], [2, 3, 4, 12], [2, 3, 4], [2, 3, 4, 16], [2, 3, 4, 1000003], [2, 3, 4, 1000003]]) 21 rfl (by simp) rfl (by simp) ?_
      simp only [argsG, Nat.zero_add, Nat.reduceAdd, St.cs, st00, St.x] at *
      repeat' first
        | ((first
            | ((with_reducible refine vR_cons (by decide) ?_); generalize hk : KtR _ _ _ _ _ _ _ _ _ _ = k)
            | ((first
            | with_reducible refine vOps_cons' ?_
            | ((with_reducible apply orc_bc); (focus (exact hw; done)))
            | ((with_reducible apply orc_i); (focus (exact hR; done)))) <;> generalize hk : Kt _ _ _ _ _ _ _ _ _ = k)) <;> (simp only [Try.f29, lv, E1, E2, E5, ET, T, orc_mv, noO_mv, mvB, orc_bx, noO_bx, bxB, fwd, fwds, inv, mOk, Int.toNat_natCast, Nat.div_one, Nat.mul_one, Int.reduceToNat, SB, List.not_mem_nil, ↓reduceIte, ne_eq, reduceCtorEq, Nat.reduceLT, Nat.reduceEqDiff, Nat.reduceAdd, Nat.reduceMul, Nat.reduceLeDiff, Nat.reduceDiv, Nat.reduceMod, Nat.reduceSub, Nat.reduceBEq, List.length_map, bs_len, rn_len, chs_len, chs_cnt, Int.sub_zero, Int.toNat_natCast, Int.reduceToNat, Int.natCast_zero]; (try simp (disch := omega) only [wrap_in, Int.toNat_natCast, tv_rn, tv_bst]); subst hk))
        | with_reducible first | refine Kt_p ?_ | refine Kt_i (by kernel_rfl) ?_ | refine Kr_f (by kernel_rfl) ?_
        | (with_reducible refine Kr_t ?_; simp only [List.length_append, List.length_cons, List.length_nil, Nat.reduceAdd, Nat.reduceSub, List.drop_succ_cons, List.drop_zero])
        | with_reducible first | refine vR_nil ?_ | refine KtR_i (by kernel_rfl) ?_ | refine KrR_i (by kernel_rfl) ?_ | refine vR_skip (by decide) ?_
        | ((with_reducible refine vB_i ?_ ?_) <;> intro _ <;> (first | (exfalso; omega) | (exact absurd trivial ‹¬True›) | (try dsimp only [])))
        | ((with_reducible refine vOps_nil' ?_); refine Kr_i (by kernel_rfl) ?_; generalize hk : plain _ _ = G; simp only [lv, E3, E2, E5, rawX, deadX, SB, List.not_mem_nil, ↓reduceIte, ne_eq, reduceCtorEq, Nat.reduceLT, Nat.reduceEqDiff, Nat.reduceAdd, Nat.reduceMul, Nat.reduceLeDiff, Nat.reduceDiv, Nat.reduceMod, Nat.reduceSub, Nat.reduceBEq, List.length_map, bs_len, rn_len, chs_len, chs_cnt, Int.sub_zero, Int.toNat_natCast, Int.reduceToNat, Int.natCast_zero] at hk; subst hk)
        | with_reducible refine vSeq_i ?_
        | with_reducible first | refine vRegion_i (by kernel_rfl) ?_ | refine Kv_i ?_
        | ((with_reducible apply vStrK_i); (focus (rfl; done)))
        | ((with_reducible refine imp_i ?_); intro _)
        | with_reducible first | refine Ks_n ?_ | refine Ks_r ?_ | refine Ks_e ?_ | refine Kl_e ?_ | refine Kx_n ?_ | refine Kl_r ?_ | refine vRet_i ?_ | refine vSkip_i ?_ | refine vExit_i ?_ | refine vBlock_i ?_ | refine Ks_p ?_ | refine Kl_p ?_ | refine blk_p ?_ | exact Kb_p | refine vGoto_i ?_ | refine vLabel_i ?_ | refine Ks_g ?_ | refine Kl_g ?_ | refine blk_g ?_ | refine jmp_g ?_ | refine jmp_n ?_ | refine jmp_r ?_ | refine nog_n ?_ | refine nog_r ?_ | refine blk_n ?_ | refine blk_r ?_ | refine blk_e ?_ | refine blk_o (by decide) ?_ | refine cp_t ?_ | refine cp_f ?_
        | ((with_reducible apply vCond_x); (focus (simp only [lv, E1, E2, E5, ET, T, orc_mv, noO_mv, mvB, orc_bx, noO_bx, bxB, fwd, fwds, inv, mOk, Int.toNat_natCast, Nat.div_one, Nat.mul_one, Int.reduceToNat, SB, List.not_mem_nil, ↓reduceIte, ne_eq, reduceCtorEq, Nat.reduceLT, Nat.reduceEqDiff, Nat.reduceAdd, Nat.reduceMul, Nat.reduceLeDiff, Nat.reduceDiv, Nat.reduceMod, Nat.reduceSub, Nat.reduceBEq, List.length_map, bs_len, rn_len, chs_len, chs_cnt, Int.sub_zero, Int.toNat_natCast, Int.reduceToNat, Int.natCast_zero]; with_reducible first | exact Eq.refl (bo true) | exact Eq.refl (bo false))))
        | ((with_reducible refine And.intro ?_ ?_); (focus (try omega)))
      refine Kf_r ?_
      simp only [Try.f29, E4, E3, E2, E5, rawX, deadX, ET, T, SB, List.not_mem_nil, ↓reduceIte, ne_eq, reduceCtorEq, Nat.reduceLT, Nat.reduceEqDiff, Nat.reduceAdd, Nat.reduceMul, Nat.reduceLeDiff, Nat.reduceDiv, Nat.reduceMod, Nat.reduceSub, Nat.reduceBEq, List.length_map, bs_len, rn_len, chs_len, chs_cnt, Int.sub_zero, Int.toNat_natCast, Int.reduceToNat, Int.natCast_zero, stE, St.cs, st00]
      rfl
  | bad e =>
    have hv : CallB Try.prog 50 [pbox, cbox 0, (25, st00.cs), (91, rdr xs)] [.p (.one (.cb 59 [0, 1, 2]))] (.ret (i64 e) [(89, [.dead]), (3, [.dead]), (25, [.dead, .dead, .dead]), (91, [.dead])]) := caught_okP (hs := [0, 1, 2]) (rst1_bad xs g' e hro)
    have he := readSt_e hro
    rw [show readStF xs = (0, st00, e) by rw [readStF, hro]]
    refine fn_ok' T_ok (orc_ok _) mixed Try.func29 rfl (by kernel_rfl) (lv [[0, 2, 3], [2, 3, 5], [2, 3, 4], [2, 3, 4, 12], [2, 3, 4], [2, 3, 4, 16], [2, 3, 4, 1000003], [2, 3, 4, 1000003]]) 21 rfl (by simp) rfl (by simp) ?_
    simp only [argsG, Nat.zero_add, Nat.reduceAdd, St.cs, st00, St.x] at *
    repeat' first
      | ((first
          | ((with_reducible refine vR_cons (by decide) ?_); generalize hk : KtR _ _ _ _ _ _ _ _ _ _ = k)
          | ((first
          | with_reducible refine vOps_cons' ?_
          | ((with_reducible apply orc_bc); (focus (exact hv; done)))) <;> generalize hk : Kt _ _ _ _ _ _ _ _ _ = k)) <;> (simp only [Try.f29, lv, E1, E2, E5, ET, T, orc_mv, noO_mv, mvB, orc_bx, noO_bx, bxB, fwd, fwds, inv, mOk, Int.toNat_natCast, Nat.div_one, Nat.mul_one, Int.reduceToNat, SB, List.not_mem_nil, ↓reduceIte, ne_eq, reduceCtorEq, Nat.reduceLT, Nat.reduceEqDiff, Nat.reduceAdd, Nat.reduceMul, Nat.reduceLeDiff, Nat.reduceDiv, Nat.reduceMod, Nat.reduceSub, Nat.reduceBEq, List.length_map, bs_len, rn_len, chs_len, chs_cnt, Int.sub_zero, Int.toNat_natCast, Int.reduceToNat, Int.natCast_zero]; (try simp (disch := omega) only [wrap_in, Int.toNat_natCast, tv_rn, tv_bst]); subst hk))
      | with_reducible first | refine Kt_p ?_ | refine Kt_i (by kernel_rfl) ?_ | refine Kr_f (by kernel_rfl) ?_
      | (with_reducible refine Kr_t ?_; simp only [List.length_append, List.length_cons, List.length_nil, Nat.reduceAdd, Nat.reduceSub, List.drop_succ_cons, List.drop_zero])
      | with_reducible first | refine vR_nil ?_ | refine KtR_i (by kernel_rfl) ?_ | refine KrR_i (by kernel_rfl) ?_ | refine vR_skip (by decide) ?_
      | ((with_reducible refine vB_i ?_ ?_) <;> intro _ <;> (first | (exfalso; omega) | (exact absurd trivial ‹¬True›) | (try dsimp only [])))
      | ((with_reducible refine vOps_nil' ?_); refine Kr_i (by kernel_rfl) ?_; generalize hk : plain _ _ = G; simp only [lv, E3, E2, E5, rawX, deadX, SB, List.not_mem_nil, ↓reduceIte, ne_eq, reduceCtorEq, Nat.reduceLT, Nat.reduceEqDiff, Nat.reduceAdd, Nat.reduceMul, Nat.reduceLeDiff, Nat.reduceDiv, Nat.reduceMod, Nat.reduceSub, Nat.reduceBEq, List.length_map, bs_len, rn_len, chs_len, chs_cnt, Int.sub_zero, Int.toNat_natCast, Int.reduceToNat, Int.natCast_zero] at hk; subst hk)
      | with_reducible refine vSeq_i ?_
      | with_reducible first | refine vRegion_i (by kernel_rfl) ?_ | refine Kv_i ?_
      | ((with_reducible apply vStrK_i); (focus (rfl; done)))
      | ((with_reducible refine imp_i ?_); intro _)
      | with_reducible first | refine Ks_n ?_ | refine Ks_r ?_ | refine Ks_e ?_ | refine Kl_e ?_ | refine Kx_n ?_ | refine Kl_r ?_ | refine vRet_i ?_ | refine vSkip_i ?_ | refine vExit_i ?_ | refine vBlock_i ?_ | refine Ks_p ?_ | refine Kl_p ?_ | refine blk_p ?_ | exact Kb_p | refine vGoto_i ?_ | refine vLabel_i ?_ | refine Ks_g ?_ | refine Kl_g ?_ | refine blk_g ?_ | refine jmp_g ?_ | refine jmp_n ?_ | refine jmp_r ?_ | refine nog_n ?_ | refine nog_r ?_ | refine blk_n ?_ | refine blk_r ?_ | refine blk_e ?_ | refine blk_o (by decide) ?_ | refine cp_t ?_ | refine cp_f ?_
      | ((with_reducible apply vCond_x); (focus (simp only [lv, E1, E2, E5, ET, T, orc_mv, noO_mv, mvB, orc_bx, noO_bx, bxB, fwd, fwds, inv, mOk, Int.toNat_natCast, Nat.div_one, Nat.mul_one, Int.reduceToNat, SB, List.not_mem_nil, ↓reduceIte, ne_eq, reduceCtorEq, Nat.reduceLT, Nat.reduceEqDiff, Nat.reduceAdd, Nat.reduceMul, Nat.reduceLeDiff, Nat.reduceDiv, Nat.reduceMod, Nat.reduceSub, Nat.reduceBEq, List.length_map, bs_len, rn_len, chs_len, chs_cnt, Int.sub_zero, Int.toNat_natCast, Int.reduceToNat, Int.natCast_zero]; with_reducible first | exact Eq.refl (bo true) | exact Eq.refl (bo false))))
      | ((with_reducible refine And.intro ?_ ?_); (focus (try omega)))
    refine Kf_r ?_
    simp only [Try.f29, E4, E3, E2, E5, rawX, deadX, ET, T, SB, List.not_mem_nil, ↓reduceIte, ne_eq, reduceCtorEq, Nat.reduceLT, Nat.reduceEqDiff, Nat.reduceAdd, Nat.reduceMul, Nat.reduceLeDiff, Nat.reduceDiv, Nat.reduceMod, Nat.reduceSub, Nat.reduceBEq, List.length_map, bs_len, rn_len, chs_len, chs_cnt, Int.sub_zero, Int.toNat_natCast, Int.reduceToNat, Int.natCast_zero, stE, St.cs, st00]
    rfl
theorem readState_ok (xs : List Int) (g : BytN 100000 xs) : CallOk Try.prog 29 [sl (bs xs)] (stE (readStF xs)) [] false := readState_ok' xs (g.mono (by omega)) fun c s rest h => readSt_ok g h
end Go.Proofs.YtdpflafjfkooeaaG
namespace Go.Proofs.YtdpflafjfkooeaaG
open Go Go.RowKit Go.Proofs
set_option linter.unusedSimpArgs false
set_option linter.unusedVariables false
/-- A text's bytes; none, if one of its numbers is no scalar value. -/
def encV (l : List Int) : List Int := if scal l then encF l else []
theorem encV_le (l : List Int) : (encV l).length ≤ 4 * l.length := by
  unfold encV; split
  · exact encF_le l
  · simp
theorem encR_v (l : List Int) : encR l = [(5, 1, bs (encV l))] := rfl
def pieceF (l : List Int) : List Int := numB ((encV l).length : Int) ++ encV l
theorem numB_len (n : Int) : (numB n).length = 4 := rfl
theorem pieceF_le (l : List Int) : (pieceF l).length ≤ 4 + 4 * l.length := by
  have := encV_le l
  simp only [pieceF, List.length_append, numB_len]; omega
set_option maxRecDepth 10000 in
theorem piece_ok (b l : List Int) (h : R32s l) (hl : l.length ≤ 2000000) (hb : b.length ≤ 130000000000000) : CallM Try.prog 56 (5, 1, bs b) [sl (rn l)] (.p (.one (.sr 0))) [(5, 1, bs (b ++ pieceF l))] := by
  have hv := encV_le l
  refine fn_okM' T_ok (orc_ok _) mixed Try.func56 rfl (by kernel_rfl) (lv [[0, 1], [0, 5], [4]]) 20 rfl (by simp) rfl ?_
  simp only [argsG, Nat.zero_add, Nat.reduceAdd]
  repeat' first
    | ((first
        | ((with_reducible refine vR_cons (by decide) ?_); generalize hk : KtR _ _ _ _ _ _ _ _ _ _ = k)
        | ((first
        | with_reducible refine vOps_cons' ?_
        | ((with_reducible apply orc_i); (focus ((have hq := encode_ok l h hl; simp only [encX, encR_v] at hq; exact hq); done)))
        | ((with_reducible apply orc_m); (focus (exact number_ok _ _ (by omega); done)))) <;> generalize hk : Kt _ _ _ _ _ _ _ _ _ = k)) <;> (simp only [Try.f56, lv, E1, E2, E5, ET, T, orc_mv, noO_mv, mvB, orc_bx, noO_bx, bxB, fwd, fwds, inv, mOk, Int.toNat_natCast, Nat.div_one, Nat.mul_one, Int.reduceToNat, SB, List.not_mem_nil, ↓reduceIte, ne_eq, reduceCtorEq, Nat.reduceLT, Nat.reduceEqDiff, Nat.reduceAdd, Nat.reduceMul, Nat.reduceLeDiff, Nat.reduceDiv, Nat.reduceMod, Nat.reduceSub, Nat.reduceBEq, List.length_map, bs_len, rn_len, chs_len, chs_cnt, List.length_append, List.length_cons, List.length_nil, Ch.x, Opn.x]; (try simp (disch := omega) only [wrap_in, Int.toNat_natCast, tv_rn, tv_ch0, tv_ch1, tv_ch2]); subst hk))
    | with_reducible first | refine Kt_p ?_ | refine Kt_i (by kernel_rfl) ?_ | refine Kr_f (by kernel_rfl) ?_
    | (with_reducible refine Kr_t ?_; simp only [List.length_append, List.length_cons, List.length_nil, Nat.reduceAdd, Nat.reduceSub, List.drop_succ_cons, List.drop_zero])
    | with_reducible first | refine vR_nil ?_ | refine KtR_i (by kernel_rfl) ?_ | refine KrR_i (by kernel_rfl) ?_ | refine vR_skip (by decide) ?_
    | ((with_reducible refine vB_i ?_ ?_) <;> intro _ <;> (first | (exfalso; omega) | (exact absurd trivial ‹¬True›) | (try dsimp only [])))
    | ((with_reducible refine vOps_nil' ?_); refine Kr_i (by kernel_rfl) ?_; generalize hk : plain _ _ = G; simp only [lv, E3, E2, E5, rawX, deadX, SB, List.not_mem_nil, ↓reduceIte, ne_eq, reduceCtorEq, Nat.reduceLT, Nat.reduceEqDiff, Nat.reduceAdd, Nat.reduceMul, Nat.reduceLeDiff, Nat.reduceDiv, Nat.reduceMod, Nat.reduceSub, Nat.reduceBEq, List.length_map, bs_len, rn_len, chs_len, chs_cnt, List.length_append, List.length_cons, List.length_nil, Ch.x, Opn.x] at hk; subst hk)
    | with_reducible refine vSeq_i ?_
    | with_reducible first | refine vRegion_i (by kernel_rfl) ?_ | refine Kv_i ?_
    | ((with_reducible apply vStrK_i); (focus (rfl; done)))
    | ((with_reducible refine imp_i ?_); intro _)
    | with_reducible first | refine Ks_n ?_ | refine Ks_r ?_ | refine Ks_e ?_ | refine Kl_e ?_ | refine Kx_n ?_ | refine Kl_r ?_ | refine vRet_i ?_ | refine vSkip_i ?_ | refine vExit_i ?_ | refine vBlock_i ?_ | refine Ks_p ?_ | refine Kl_p ?_ | refine blk_p ?_ | exact Kb_p | refine vGoto_i ?_ | refine vLabel_i ?_ | refine Ks_g ?_ | refine Kl_g ?_ | refine blk_g ?_ | refine jmp_g ?_ | refine jmp_n ?_ | refine jmp_r ?_ | refine nog_n ?_ | refine nog_r ?_ | refine blk_n ?_ | refine blk_r ?_ | refine blk_e ?_ | refine blk_o (by decide) ?_ | refine cp_t ?_ | refine cp_f ?_
    | ((with_reducible apply vCond_x); (focus (simp only [lv, E1, E2, E5, ET, T, orc_mv, noO_mv, mvB, orc_bx, noO_bx, bxB, fwd, fwds, inv, mOk, Int.toNat_natCast, Nat.div_one, Nat.mul_one, Int.reduceToNat, SB, List.not_mem_nil, ↓reduceIte, ne_eq, reduceCtorEq, Nat.reduceLT, Nat.reduceEqDiff, Nat.reduceAdd, Nat.reduceMul, Nat.reduceLeDiff, Nat.reduceDiv, Nat.reduceMod, Nat.reduceSub, Nat.reduceBEq, List.length_map, bs_len, rn_len, chs_len, chs_cnt, List.length_append, List.length_cons, List.length_nil, Ch.x, Opn.x]; with_reducible first | exact Eq.refl (bo true) | exact Eq.refl (bo false))))
    | ((with_reducible refine And.intro ?_ ?_); (focus (try omega)))
  all_goals try (simp only [numB_len]; omega)
  refine Kf_r ?_
  simp only [Try.f56, E4, E3, E2, E5, rawX, deadX, ET, T, SB, List.not_mem_nil, ↓reduceIte, ne_eq, reduceCtorEq, Nat.reduceLT, Nat.reduceEqDiff, Nat.reduceAdd, Nat.reduceMul, Nat.reduceLeDiff, Nat.reduceDiv, Nat.reduceMod, Nat.reduceSub, Nat.reduceBEq, List.length_map, bs_len, rn_len, chs_len, chs_cnt, List.length_append, List.length_cons, List.length_nil, Ch.x, Opn.x, pieceF, bs_app, List.append_assoc]
def chF (c : Ch) : List Int := numB c.at_ ++ (pieceF c.gone ++ pieceF c.came)
def chsF (l : List Ch) : List Int := ((l.length : Int) % 256) :: l.flatMap chF
theorem chF_le {c : Ch} (h : c.small) : (chF c).length ≤ 16000012 := by
  have h1 := pieceF_le c.gone; have h2 := pieceF_le c.came; have := h.1; have := h.2
  simp only [chF, List.length_append, numB_len]; omega
theorem flat_le {l : List Ch} (h : ∀ c ∈ l, c.small) : (l.flatMap chF).length ≤ l.length * 16000012 := by
  induction l with
  | nil => simp
  | cons c l ih =>
    have h1 := ih fun c hc => h c (by simp [hc])
    have h2 := chF_le (h c (by simp))
    simp only [List.flatMap_cons, List.length_append, List.length_cons]; omega
theorem flat_1 {l : List Ch} {k : Nat} (h : k < l.length) : (l.take (k + 1)).flatMap chF = (l.take k).flatMap chF ++ chF (l.getD k noCh) := by
  have e : l.take (k + 1) = l.take k ++ [l.getD k noCh] := by rw [List.take_add_one]; simp [List.getD, List.getElem?_eq_getElem h]
  rw [e, List.flatMap_append]
  simp only [List.flatMap_cons, List.flatMap_nil, List.append_nil]
set_option maxRecDepth 10000 in
set_option maxHeartbeats 4000000 in
theorem wchanges_ok (b : List Int) (l : List Ch) (hl : l.length ≤ 2000000) (hc : ∀ c ∈ l, c.small) (hr : ∀ c ∈ l, R32s c.gone ∧ R32s c.came) (hb : b.length ≤ 70000000000000) : CallM Try.prog 55 (5, 1, bs b) [sln 3 (chs l)] (.p (.one (.sr 0))) [(5, 1, bs (b ++ chsF l))] := by
  refine fn_okM' T_ok (orc_ok _) mixed Try.func55 rfl (by kernel_rfl) (lv [[0, 1], [0, 1], [0, 13, 14, 15], [0, 13, 14, 15, 16], [0, 6, 13, 14, 15], [0, 13, 14, 15], [0, 13, 14, 15], [4]]) 31 rfl (by simp) rfl ?_
  simp only [argsG, Nat.zero_add, Nat.reduceAdd]
  repeat' first
    | ((first
        | ((with_reducible refine vR_cons (by decide) ?_); generalize hk : KtR _ _ _ _ _ _ _ _ _ _ = k)
        | ((first
        | with_reducible refine vOps_cons' ?_) <;> generalize hk : Kt _ _ _ _ _ _ _ _ _ = k)) <;> (simp only [Try.f55, lv, E1, E2, E5, ET, T, orc_mv, noO_mv, mvB, orc_bx, noO_bx, bxB, fwd, fwds, inv, mOk, Int.toNat_natCast, Nat.div_one, Nat.mul_one, Int.reduceToNat, SB, List.not_mem_nil, ↓reduceIte, ne_eq, reduceCtorEq, Nat.reduceLT, Nat.reduceEqDiff, Nat.reduceAdd, Nat.reduceMul, Nat.reduceLeDiff, Nat.reduceDiv, Nat.reduceMod, Nat.reduceSub, Nat.reduceBEq, List.length_map, bs_len, rn_len, chs_len, chs_cnt, List.length_append, List.length_cons, List.length_nil, Ch.x, Opn.x]; (try simp (disch := omega) only [wrap_in, Int.toNat_natCast, tv_rn, tv_ch0, tv_ch1, tv_ch2]); subst hk))
    | with_reducible first | refine Kt_p ?_ | refine Kt_i (by kernel_rfl) ?_ | refine Kr_f (by kernel_rfl) ?_
    | (with_reducible refine Kr_t ?_; simp only [List.length_append, List.length_cons, List.length_nil, Nat.reduceAdd, Nat.reduceSub, List.drop_succ_cons, List.drop_zero])
    | with_reducible first | refine vR_nil ?_ | refine KtR_i (by kernel_rfl) ?_ | refine KrR_i (by kernel_rfl) ?_ | refine vR_skip (by decide) ?_
    | ((with_reducible refine vB_i ?_ ?_) <;> intro _ <;> (first | (exfalso; omega) | (exact absurd trivial ‹¬True›) | (try dsimp only [])))
    | ((with_reducible refine vOps_nil' ?_); refine Kr_i (by kernel_rfl) ?_; generalize hk : plain _ _ = G; simp only [lv, E3, E2, E5, rawX, deadX, SB, List.not_mem_nil, ↓reduceIte, ne_eq, reduceCtorEq, Nat.reduceLT, Nat.reduceEqDiff, Nat.reduceAdd, Nat.reduceMul, Nat.reduceLeDiff, Nat.reduceDiv, Nat.reduceMod, Nat.reduceSub, Nat.reduceBEq, List.length_map, bs_len, rn_len, chs_len, chs_cnt, List.length_append, List.length_cons, List.length_nil, Ch.x, Opn.x] at hk; subst hk)
    | with_reducible refine vSeq_i ?_
    | with_reducible first | refine vRegion_i (by kernel_rfl) ?_ | refine Kv_i ?_
    | ((with_reducible apply vStrK_i); (focus (rfl; done)))
    | ((with_reducible refine imp_i ?_); intro _)
    | with_reducible first | refine Ks_n ?_ | refine Ks_r ?_ | refine Ks_e ?_ | refine Kl_e ?_ | refine Kx_n ?_ | refine Kl_r ?_ | refine vRet_i ?_ | refine vSkip_i ?_ | refine vExit_i ?_ | refine vBlock_i ?_ | refine Ks_p ?_ | refine Kl_p ?_ | refine blk_p ?_ | exact Kb_p | refine vGoto_i ?_ | refine vLabel_i ?_ | refine Ks_g ?_ | refine Kl_g ?_ | refine blk_g ?_ | refine jmp_g ?_ | refine jmp_n ?_ | refine jmp_r ?_ | refine nog_n ?_ | refine nog_r ?_ | refine blk_n ?_ | refine blk_r ?_ | refine blk_e ?_ | refine blk_o (by decide) ?_ | refine cp_t ?_ | refine cp_f ?_
    | ((with_reducible apply vCond_x); (focus (simp only [lv, E1, E2, E5, ET, T, orc_mv, noO_mv, mvB, orc_bx, noO_bx, bxB, fwd, fwds, inv, mOk, Int.toNat_natCast, Nat.div_one, Nat.mul_one, Int.reduceToNat, SB, List.not_mem_nil, ↓reduceIte, ne_eq, reduceCtorEq, Nat.reduceLT, Nat.reduceEqDiff, Nat.reduceAdd, Nat.reduceMul, Nat.reduceLeDiff, Nat.reduceDiv, Nat.reduceMod, Nat.reduceSub, Nat.reduceBEq, List.length_map, bs_len, rn_len, chs_len, chs_cnt, List.length_append, List.length_cons, List.length_nil, Ch.x, Opn.x]; with_reducible first | exact Eq.refl (bo true) | exact Eq.refl (bo false))))
    | ((with_reducible refine And.intro ?_ ?_); (focus (try omega)))
  all_goals try omega
  refine vLoop_s (fun k : Nat => [(.t 0, .t (.p (.one (.sr 0)))), (.t 13, .t (sln 3 (chs l))), (.t 14, .t (i64 l.length)), (.t 15, .t (i64 k)), (.row 0, .row 5 1 (bs (b ++ (((l.length : Int) % 256) :: (l.take k).flatMap chF))))]) (fun k => k ≤ l.length) (fun k => l.length - k) 0 (by omega) (by rw [u8w, bs_app]; rfl) ?_
  intro k hk
  have hf : ((l.take k).flatMap chF).length ≤ k * 16000012 := by
    have := flat_le (l := l.take k) fun c h => hc c (List.mem_of_mem_take h)
    rw [List.length_take] at this
    exact Nat.le_trans this (Nat.mul_le_mul_right _ (by omega))
  have hp1 := fun h : k < l.length => pieceF_le (l.getD k noCh).gone
  have hp2 := fun h : k < l.length => pieceF_le (l.getD k noCh).came
  have hs := fun h : k < l.length => hc (l.getD k noCh) (mem_getD h)
  have hq := fun h : k < l.length => hr (l.getD k noCh) (mem_getD h)
  repeat' first
    | ((first
        | ((with_reducible refine vR_cons (by decide) ?_); generalize hk : KtR _ _ _ _ _ _ _ _ _ _ = k)
        | ((first
        | with_reducible refine vOps_cons' ?_
        | ((with_reducible apply orc_m); (focus (exact number_ok _ _ (by simp only [List.length_append, List.length_cons]; omega); done)))
        | ((with_reducible apply orc_m); (focus (exact piece_ok _ _ (hq (by omega)).1 (hs (by omega)).1 (by simp only [List.length_append, List.length_cons, numB_len]; omega); done)))
        | ((with_reducible apply orc_m); (focus (exact piece_ok _ _ (hq (by omega)).2 (hs (by omega)).2 (by have := hp1 (by omega); have := (hs (by omega)).1; simp only [List.length_append, List.length_cons, numB_len]; omega); done)))) <;> generalize hk : Kt _ _ _ _ _ _ _ _ _ = k)) <;> (simp only [Try.f55, lv, E1, E2, E5, ET, T, orc_mv, noO_mv, mvB, orc_bx, noO_bx, bxB, fwd, fwds, inv, mOk, Int.toNat_natCast, Nat.div_one, Nat.mul_one, Int.reduceToNat, SB, List.not_mem_nil, ↓reduceIte, ne_eq, reduceCtorEq, Nat.reduceLT, Nat.reduceEqDiff, Nat.reduceAdd, Nat.reduceMul, Nat.reduceLeDiff, Nat.reduceDiv, Nat.reduceMod, Nat.reduceSub, Nat.reduceBEq, List.length_map, bs_len, rn_len, chs_len, chs_cnt, List.length_append, List.length_cons, List.length_nil, Ch.x, Opn.x]; (try simp (disch := omega) only [wrap_in, Int.toNat_natCast, tv_rn, tv_ch0, tv_ch1, tv_ch2]); subst hk))
    | with_reducible first | refine Kt_p ?_ | refine Kt_i (by kernel_rfl) ?_ | refine Kr_f (by kernel_rfl) ?_
    | (with_reducible refine Kr_t ?_; simp only [List.length_append, List.length_cons, List.length_nil, Nat.reduceAdd, Nat.reduceSub, List.drop_succ_cons, List.drop_zero])
    | with_reducible first | refine vR_nil ?_ | refine KtR_i (by kernel_rfl) ?_ | refine KrR_i (by kernel_rfl) ?_ | refine vR_skip (by decide) ?_
    | ((with_reducible refine vB_i ?_ ?_) <;> intro _ <;> (first | (exfalso; omega) | (exact absurd trivial ‹¬True›) | (try dsimp only [])))
    | ((with_reducible refine vOps_nil' ?_); refine Kr_i (by kernel_rfl) ?_; generalize hk : plain _ _ = G; simp only [lv, E3, E2, E5, rawX, deadX, SB, List.not_mem_nil, ↓reduceIte, ne_eq, reduceCtorEq, Nat.reduceLT, Nat.reduceEqDiff, Nat.reduceAdd, Nat.reduceMul, Nat.reduceLeDiff, Nat.reduceDiv, Nat.reduceMod, Nat.reduceSub, Nat.reduceBEq, List.length_map, bs_len, rn_len, chs_len, chs_cnt, List.length_append, List.length_cons, List.length_nil, Ch.x, Opn.x] at hk; subst hk)
    | with_reducible refine vSeq_i ?_
    | with_reducible first | refine vRegion_i (by kernel_rfl) ?_ | refine Kv_i ?_
    | ((with_reducible apply vStrK_i); (focus (rfl; done)))
    | ((with_reducible refine imp_i ?_); intro _)
    | with_reducible first | refine Ks_n ?_ | refine Ks_r ?_ | refine Ks_e ?_ | refine Kl_e ?_ | refine Kx_n ?_ | refine Kl_r ?_ | refine vRet_i ?_ | refine vSkip_i ?_ | refine vExit_i ?_ | refine vBlock_i ?_ | refine Ks_p ?_ | refine Kl_p ?_ | refine blk_p ?_ | exact Kb_p | refine vGoto_i ?_ | refine vLabel_i ?_ | refine Ks_g ?_ | refine Kl_g ?_ | refine blk_g ?_ | refine jmp_g ?_ | refine jmp_n ?_ | refine jmp_r ?_ | refine nog_n ?_ | refine nog_r ?_ | refine blk_n ?_ | refine blk_r ?_ | refine blk_e ?_ | refine blk_o (by decide) ?_ | refine cp_t ?_ | refine cp_f ?_
    | ((with_reducible apply vCond_x); (focus (simp only [lv, E1, E2, E5, ET, T, orc_mv, noO_mv, mvB, orc_bx, noO_bx, bxB, fwd, fwds, inv, mOk, Int.toNat_natCast, Nat.div_one, Nat.mul_one, Int.reduceToNat, SB, List.not_mem_nil, ↓reduceIte, ne_eq, reduceCtorEq, Nat.reduceLT, Nat.reduceEqDiff, Nat.reduceAdd, Nat.reduceMul, Nat.reduceLeDiff, Nat.reduceDiv, Nat.reduceMod, Nat.reduceSub, Nat.reduceBEq, List.length_map, bs_len, rn_len, chs_len, chs_cnt, List.length_append, List.length_cons, List.length_nil, Ch.x, Opn.x]; with_reducible first | exact Eq.refl (bo true) | exact Eq.refl (bo false))))
    | ((with_reducible refine And.intro ?_ ?_); (focus (try omega)))
  · refine Kl_n ⟨k + 1, by omega, by omega, ?_⟩
    rw [flat_1 (by omega)]
    simp only [Int.natCast_add, Int.natCast_one, chF, List.append_assoc, List.cons_append]
  · refine Kf_r ?_
    rw [List.take_of_length_le (by omega)]
    simp only [Try.f55, E4, E3, E2, E5, rawX, deadX, ET, T, SB, List.not_mem_nil, ↓reduceIte, ne_eq, reduceCtorEq, Nat.reduceLT, Nat.reduceEqDiff, Nat.reduceAdd, Nat.reduceMul, Nat.reduceLeDiff, Nat.reduceDiv, Nat.reduceMod, Nat.reduceSub, Nat.reduceBEq, List.length_map, bs_len, rn_len, chs_len, chs_cnt, List.length_append, List.length_cons, List.length_nil, Ch.x, Opn.x, chsF]
def isI (n : Int) : Bool := decide (0 ≤ n ∧ n ≤ 2147483647)
/-- An operation's bytes, and why not. -/
def opF (o : Opn) : List Int × Int :=
  if o.kind = 1 then if isI o.at_ = false ∨ o.text = [] then ([], 2) else if ¬ scal o.text then ([], 11) else if 5 + (encF o.text).length > 4096 then ([], 3) else (1 :: (numB o.at_ ++ encF o.text), 0)
  else if o.kind = 2 then if isI o.at_ = false ∨ isI o.to_ = false then ([], 2) else (2 :: (numB o.at_ ++ numB o.to_), 0)
  else if o.kind = 3 ∨ o.kind = 4 then ([o.kind], 0) else ([], 2)
theorem scal_of {l : List Int} (h : (if scal l then (0 : Int) else 11) = 0) : scal l := by
  by_cases hs : scal l
  · exact hs
  · rw [if_neg hs] at h; exact absurd h (by decide)
theorem not_scal {l : List Int} (h : ¬ (if scal l then (0 : Int) else 11) = 0) : ¬ scal l := fun hs => h (if_pos hs)
theorem isI_t {n : Int} (h : 0 ≤ n ∧ n ≤ 2147483647) : isI n = true := decide_eq_true h
theorem isI_f {n : Int} (h : ¬ (0 ≤ n ∧ n ≤ 2147483647)) : isI n = false := decide_eq_false h
theorem opF_err1 {o : Opn} (k : o.kind = 1) (h : isI o.at_ = false ∨ o.text = []) : opF o = ([], 2) := by unfold opF; rw [if_pos k, if_pos h]
theorem opF_scal {o : Opn} (k : o.kind = 1) (h : ¬ (isI o.at_ = false ∨ o.text = [])) (hs : ¬ scal o.text) : opF o = ([], 11) := by unfold opF; rw [if_pos k, if_neg h, if_pos hs]
theorem opF_big {o : Opn} (k : o.kind = 1) (h : ¬ (isI o.at_ = false ∨ o.text = [])) (hs : scal o.text) (hb : 5 + (encF o.text).length > 4096) : opF o = ([], 3) := by unfold opF; rw [if_pos k, if_neg h, if_neg (fun q => q hs), if_pos hb]
theorem opF_ins {o : Opn} (k : o.kind = 1) (h : ¬ (isI o.at_ = false ∨ o.text = [])) (hs : scal o.text) (hb : ¬ 5 + (encF o.text).length > 4096) : opF o = (1 :: (numB o.at_ ++ encF o.text), 0) := by unfold opF; rw [if_pos k, if_neg h, if_neg (fun q => q hs), if_neg hb]
theorem opF_err2 {o : Opn} (k : o.kind = 2) (h : isI o.at_ = false ∨ isI o.to_ = false) : opF o = ([], 2) := by unfold opF; rw [if_neg (by omega), if_pos k, if_pos h]
theorem opF_del {o : Opn} (k : o.kind = 2) (h : ¬ (isI o.at_ = false ∨ isI o.to_ = false)) : opF o = (2 :: (numB o.at_ ++ numB o.to_), 0) := by unfold opF; rw [if_neg (by omega), if_pos k, if_neg h]
theorem opF_un {o : Opn} (k : o.kind = 3 ∨ o.kind = 4) : opF o = ([o.kind], 0) := by unfold opF; rw [if_neg (by omega), if_neg (by omega), if_pos k]
theorem opF_no {o : Opn} (h1 : ¬ o.kind = 1) (h2 : ¬ o.kind = 2) (h3 : ¬ o.kind = 3) (h4 : ¬ o.kind = 4) : opF o = ([], 2) := by unfold opF; rw [if_neg h1, if_neg h2, if_neg (by omega)]
theorem w_1 : IntKind.u8.wrap 1 = 1 := by decide
theorem w_2 : IntKind.u8.wrap 2 = 2 := by decide
set_option maxRecDepth 10000 in
set_option maxHeartbeats 4000000 in
theorem wop_ok (o : Opn) (h : R32s o.text) (hl : o.text.length ≤ 2000000) : CallOk Try.prog 22 [o.x] (.tup [.one (.sr 0), .one (.v (.raw (.int .i64 (opF o).2)))]) [(5, 1, bs (opF o).1)] true := by
  have hv := encV_le o.text
  refine fn_ok' T_ok (orc_ok _) mixed Try.func22 rfl (by kernel_rfl) (lv [[1], [1, 4], [1, 4, 13], [2, 3], [1, 4, 13, 14], [1, 4, 25], [2, 3], [1, 4, 5, 7], [1, 4, 5, 7, 34], [2, 3], [4], [1, 4, 13, 42], [1, 4, 53], [2, 3], [4], [4, 13, 61], [4, 61], [4, 66], [2, 3], [2, 3]]) 68 rfl (by simp) rfl (fun _ => ⟨rfl, rows_raw⟩) ?_
  simp only [argsG, Nat.zero_add, Nat.reduceAdd, Opn.x]
  repeat' first
    | ((first
        | ((with_reducible refine vR_cons (by decide) ?_); generalize hk : KtR _ _ _ _ _ _ _ _ _ _ = k)
        | ((first
        | with_reducible refine vOps_cons' ?_
        | ((with_reducible apply orc_b); (focus (exact is_ok _; done)); (all_goals (intro hb; (try simp only [decide_eq_true_eq, decide_eq_false_iff_not, Bool.not_eq_true', Bool.not_eq_false', Bool.and_eq_true, Decidable.not_not] at hb))))
        | ((with_reducible apply orc_i); (focus ((have hq := encode_ok o.text h hl; simp only [encX, encR_v] at hq; exact hq); done)))
        | ((with_reducible apply orc_m); (focus (exact number_ok [IntKind.u8.wrap o.kind] _ (by simp); done)))
        | ((with_reducible apply orc_m); (focus (exact number_ok _ _ (by simp only [List.length_append, List.length_cons, List.length_nil, numB_len]; omega); done)))) <;> generalize hk : Kt _ _ _ _ _ _ _ _ _ = k)) <;> (simp only [Try.f22, lv, E1, E2, E5, ET, T, orc_mv, noO_mv, mvB, orc_bx, noO_bx, bxB, fwd, fwds, inv, mOk, Int.toNat_natCast, Nat.div_one, Nat.mul_one, Int.reduceToNat, SB, List.not_mem_nil, ↓reduceIte, ne_eq, reduceCtorEq, Nat.reduceLT, Nat.reduceEqDiff, Nat.reduceAdd, Nat.reduceMul, Nat.reduceLeDiff, Nat.reduceDiv, Nat.reduceMod, Nat.reduceSub, Nat.reduceBEq, List.length_map, bs_len, rn_len, chs_len, chs_cnt, List.length_append, List.length_cons, List.length_nil, Ch.x, Opn.x]; (try simp (disch := omega) only [wrap_in, Int.toNat_natCast, tv_rn, tv_ch0, tv_ch1, tv_ch2]); subst hk))
    | with_reducible first | refine Kt_p ?_ | refine Kt_i (by kernel_rfl) ?_ | refine Kr_f (by kernel_rfl) ?_
    | (with_reducible refine Kr_t ?_; simp only [List.length_append, List.length_cons, List.length_nil, Nat.reduceAdd, Nat.reduceSub, List.drop_succ_cons, List.drop_zero])
    | with_reducible first | refine vR_nil ?_ | refine KtR_i (by kernel_rfl) ?_ | refine KrR_i (by kernel_rfl) ?_ | refine vR_skip (by decide) ?_
    | ((with_reducible refine vB_i ?_ ?_) <;> intro _ <;> (first | (exfalso; omega) | (exact absurd trivial ‹¬True›) | (try dsimp only [])))
    | ((with_reducible refine vOps_nil' ?_); refine Kr_i (by kernel_rfl) ?_; generalize hk : plain _ _ = G; simp only [lv, E3, E2, E5, rawX, deadX, SB, List.not_mem_nil, ↓reduceIte, ne_eq, reduceCtorEq, Nat.reduceLT, Nat.reduceEqDiff, Nat.reduceAdd, Nat.reduceMul, Nat.reduceLeDiff, Nat.reduceDiv, Nat.reduceMod, Nat.reduceSub, Nat.reduceBEq, List.length_map, bs_len, rn_len, chs_len, chs_cnt, List.length_append, List.length_cons, List.length_nil, Ch.x, Opn.x] at hk; subst hk)
    | with_reducible refine vSeq_i ?_
    | with_reducible first | refine vRegion_i (by kernel_rfl) ?_ | refine Kv_i ?_
    | ((with_reducible apply vStrK_i); (focus (rfl; done)))
    | ((with_reducible refine imp_i ?_); intro _)
    | with_reducible first | refine Ks_n ?_ | refine Ks_r ?_ | refine Ks_e ?_ | refine Kl_e ?_ | refine Kx_n ?_ | refine Kl_r ?_ | refine vRet_i ?_ | refine vSkip_i ?_ | refine vExit_i ?_ | refine vBlock_i ?_ | refine Ks_p ?_ | refine Kl_p ?_ | refine blk_p ?_ | exact Kb_p | refine vGoto_i ?_ | refine vLabel_i ?_ | refine Ks_g ?_ | refine Kl_g ?_ | refine blk_g ?_ | refine jmp_g ?_ | refine jmp_n ?_ | refine jmp_r ?_ | refine nog_n ?_ | refine nog_r ?_ | refine blk_n ?_ | refine blk_r ?_ | refine blk_e ?_ | refine blk_o (by decide) ?_ | refine cp_t ?_ | refine cp_f ?_
    | ((with_reducible apply vCond_x); (focus (simp only [lv, E1, E2, E5, ET, T, orc_mv, noO_mv, mvB, orc_bx, noO_bx, bxB, fwd, fwds, inv, mOk, Int.toNat_natCast, Nat.div_one, Nat.mul_one, Int.reduceToNat, SB, List.not_mem_nil, ↓reduceIte, ne_eq, reduceCtorEq, Nat.reduceLT, Nat.reduceEqDiff, Nat.reduceAdd, Nat.reduceMul, Nat.reduceLeDiff, Nat.reduceDiv, Nat.reduceMod, Nat.reduceSub, Nat.reduceBEq, List.length_map, bs_len, rn_len, chs_len, chs_cnt, List.length_append, List.length_cons, List.length_nil, Ch.x, Opn.x]; with_reducible first | exact Eq.refl (bo true) | exact Eq.refl (bo false))))
    | ((with_reducible refine And.intro ?_ ?_); (focus (try omega)))
  all_goals try (simp only [List.length_append, List.length_cons, List.length_nil, numB_len]; omega)
  · rename_i k1 k2
    rw [opF_err1 k1 (.inr (List.eq_nil_of_length_eq_zero (by omega)))]
    refine Kf_r ?_
    simp only [Try.f22, E4, E3, E2, E5, rawX, deadX, ET, T, SB, List.not_mem_nil, ↓reduceIte, ne_eq, reduceCtorEq, Nat.reduceLT, Nat.reduceEqDiff, Nat.reduceAdd, Nat.reduceMul, Nat.reduceLeDiff, Nat.reduceDiv, Nat.reduceMod, Nat.reduceSub, Nat.reduceBEq, List.length_map, bs_len, rn_len, chs_len, chs_cnt, List.length_append, List.length_cons, List.length_nil, Ch.x, Opn.x, bs_nil]
  · rename_i k1 k2 k3 k4
    have hn : ¬ (isI o.at_ = false ∨ o.text = []) := fun q => by
      rcases q with q | q
      · rw [isI_t hb] at q; cases q
      · rw [q] at k2; exact k2 rfl
    have hs := scal_of k3
    rw [show encV o.text = encF o.text from if_pos hs, numB_len] at k4
    rw [opF_big k1 hn hs (by omega)]
    refine Kf_r ?_
    simp only [Try.f22, E4, E3, E2, E5, rawX, deadX, ET, T, SB, List.not_mem_nil, ↓reduceIte, ne_eq, reduceCtorEq, Nat.reduceLT, Nat.reduceEqDiff, Nat.reduceAdd, Nat.reduceMul, Nat.reduceLeDiff, Nat.reduceDiv, Nat.reduceMod, Nat.reduceSub, Nat.reduceBEq, List.length_map, bs_len, rn_len, chs_len, chs_cnt, List.length_append, List.length_cons, List.length_nil, Ch.x, Opn.x, bs_nil]
  · rename_i k1 k2 k3 k4
    have hn : ¬ (isI o.at_ = false ∨ o.text = []) := fun q => by
      rcases q with q | q
      · rw [isI_t hb] at q; cases q
      · rw [q] at k2; exact k2 rfl
    have hs := scal_of k3
    rw [show encV o.text = encF o.text from if_pos hs, numB_len] at k4
    rw [opF_ins k1 hn hs (by omega), show encV o.text = encF o.text from if_pos hs, k1, w_1, ← bs_app]
    refine Kf_r ?_
    simp only [Try.f22, E4, E3, E2, E5, rawX, deadX, ET, T, SB, List.not_mem_nil, ↓reduceIte, ne_eq, reduceCtorEq, Nat.reduceLT, Nat.reduceEqDiff, Nat.reduceAdd, Nat.reduceMul, Nat.reduceLeDiff, Nat.reduceDiv, Nat.reduceMod, Nat.reduceSub, Nat.reduceBEq, List.length_map, bs_len, rn_len, chs_len, chs_cnt, List.length_append, List.length_cons, List.length_nil, Ch.x, Opn.x, List.cons_append]
  · rename_i k1 k2 k3
    have hn : ¬ (isI o.at_ = false ∨ o.text = []) := fun q => by
      rcases q with q | q
      · rw [isI_t hb] at q; cases q
      · rw [q] at k2; exact k2 rfl
    have hs := not_scal k3
    rw [opF_scal k1 hn hs, if_neg hs]
    refine Kf_r ?_
    simp only [Try.f22, E4, E3, E2, E5, rawX, deadX, ET, T, SB, List.not_mem_nil, ↓reduceIte, ne_eq, reduceCtorEq, Nat.reduceLT, Nat.reduceEqDiff, Nat.reduceAdd, Nat.reduceMul, Nat.reduceLeDiff, Nat.reduceDiv, Nat.reduceMod, Nat.reduceSub, Nat.reduceBEq, List.length_map, bs_len, rn_len, chs_len, chs_cnt, List.length_append, List.length_cons, List.length_nil, Ch.x, Opn.x, bs_nil]
  · rename_i k1
    rw [opF_err1 k1 (.inl (isI_f hb))]
    refine Kf_r ?_
    simp only [Try.f22, E4, E3, E2, E5, rawX, deadX, ET, T, SB, List.not_mem_nil, ↓reduceIte, ne_eq, reduceCtorEq, Nat.reduceLT, Nat.reduceEqDiff, Nat.reduceAdd, Nat.reduceMul, Nat.reduceLeDiff, Nat.reduceDiv, Nat.reduceMod, Nat.reduceSub, Nat.reduceBEq, List.length_map, bs_len, rn_len, chs_len, chs_cnt, List.length_append, List.length_cons, List.length_nil, Ch.x, Opn.x, bs_nil]
  · rename_i k1 k2 hb1 k3
    exfalso
    rw [numB_len, numB_len] at k3
    omega
  · rename_i k1 k2 hb1 k3
    have hn : ¬ (isI o.at_ = false ∨ isI o.to_ = false) := fun q => by
      rcases q with q | q
      · rw [isI_t hb1] at q; cases q
      · rw [isI_t hb] at q; cases q
    rw [opF_del k2 hn, k2, w_2]
    refine Kf_r ?_
    simp only [Try.f22, E4, E3, E2, E5, rawX, deadX, ET, T, SB, List.not_mem_nil, ↓reduceIte, ne_eq, reduceCtorEq, Nat.reduceLT, Nat.reduceEqDiff, Nat.reduceAdd, Nat.reduceMul, Nat.reduceLeDiff, Nat.reduceDiv, Nat.reduceMod, Nat.reduceSub, Nat.reduceBEq, List.length_map, bs_len, rn_len, chs_len, chs_cnt, List.length_append, List.length_cons, List.length_nil, Ch.x, Opn.x, bs_nil]
  · rename_i k1 k2 hb1
    rw [opF_err2 k2 (.inr (isI_f hb))]
    refine Kf_r ?_
    simp only [Try.f22, E4, E3, E2, E5, rawX, deadX, ET, T, SB, List.not_mem_nil, ↓reduceIte, ne_eq, reduceCtorEq, Nat.reduceLT, Nat.reduceEqDiff, Nat.reduceAdd, Nat.reduceMul, Nat.reduceLeDiff, Nat.reduceDiv, Nat.reduceMod, Nat.reduceSub, Nat.reduceBEq, List.length_map, bs_len, rn_len, chs_len, chs_cnt, List.length_append, List.length_cons, List.length_nil, Ch.x, Opn.x, bs_nil]
  · rename_i k1 k2
    rw [opF_err2 k2 (.inl (isI_f hb))]
    refine Kf_r ?_
    simp only [Try.f22, E4, E3, E2, E5, rawX, deadX, ET, T, SB, List.not_mem_nil, ↓reduceIte, ne_eq, reduceCtorEq, Nat.reduceLT, Nat.reduceEqDiff, Nat.reduceAdd, Nat.reduceMul, Nat.reduceLeDiff, Nat.reduceDiv, Nat.reduceMod, Nat.reduceSub, Nat.reduceBEq, List.length_map, bs_len, rn_len, chs_len, chs_cnt, List.length_append, List.length_cons, List.length_nil, Ch.x, Opn.x, bs_nil]
  · rename_i k1 k2 k3 k4
    rw [opF_un (.inl k3), show IntKind.u8.wrap o.kind = o.kind from u8in (by omega) (by omega)]
    refine Kf_r ?_
    simp only [Try.f22, E4, E3, E2, E5, rawX, deadX, ET, T, SB, List.not_mem_nil, ↓reduceIte, ne_eq, reduceCtorEq, Nat.reduceLT, Nat.reduceEqDiff, Nat.reduceAdd, Nat.reduceMul, Nat.reduceLeDiff, Nat.reduceDiv, Nat.reduceMod, Nat.reduceSub, Nat.reduceBEq, List.length_map, bs_len, rn_len, chs_len, chs_cnt, List.length_append, List.length_cons, List.length_nil, Ch.x, Opn.x, bs, List.map_cons, List.map_nil]
  · rename_i k1 k2 k3 k4 k5
    rw [opF_un (.inr k4), show IntKind.u8.wrap o.kind = o.kind from u8in (by omega) (by omega)]
    refine Kf_r ?_
    simp only [Try.f22, E4, E3, E2, E5, rawX, deadX, ET, T, SB, List.not_mem_nil, ↓reduceIte, ne_eq, reduceCtorEq, Nat.reduceLT, Nat.reduceEqDiff, Nat.reduceAdd, Nat.reduceMul, Nat.reduceLeDiff, Nat.reduceDiv, Nat.reduceMod, Nat.reduceSub, Nat.reduceBEq, List.length_map, bs_len, rn_len, chs_len, chs_cnt, List.length_append, List.length_cons, List.length_nil, Ch.x, Opn.x, bs, List.map_cons, List.map_nil]
  · rename_i k1 k2 k3 k4
    rw [opF_no k1 k2 k3 k4]
    refine Kf_r ?_
    simp only [Try.f22, E4, E3, E2, E5, rawX, deadX, ET, T, SB, List.not_mem_nil, ↓reduceIte, ne_eq, reduceCtorEq, Nat.reduceLT, Nat.reduceEqDiff, Nat.reduceAdd, Nat.reduceMul, Nat.reduceLeDiff, Nat.reduceDiv, Nat.reduceMod, Nat.reduceSub, Nat.reduceBEq, List.length_map, bs_len, rn_len, chs_len, chs_cnt, List.length_append, List.length_cons, List.length_nil, Ch.x, Opn.x, bs_nil]
end Go.Proofs.YtdpflafjfkooeaaG
namespace Go.Proofs.YtdpflafjfkooeaaG
open Go Go.RowKit Go.Proofs
set_option linter.unusedSimpArgs false
set_option linter.unusedVariables false
/-- A state's bytes, and why not. -/
def stF (n : Int) (s : St) : List Int × Int :=
  if isI n = false then ([], 2) else if ¬ rightF s = 0 then ([], rightF s) else (numB n ++ (pieceF s.text ++ (chsF s.undo ++ chsF s.redo)), 0)
theorem stF_n {n : Int} {s : St} (h : isI n = false) : stF n s = ([], 2) := if_pos h
theorem stF_r {n : Int} {s : St} (h : isI n = true) (hr : ¬ rightF s = 0) : stF n s = ([], rightF s) := by unfold stF; rw [if_neg (by rw [h]; decide), if_pos hr]
theorem stF_ok {n : Int} {s : St} (h : isI n = true) (hr : rightF s = 0) : stF n s = (numB n ++ (pieceF s.text ++ (chsF s.undo ++ chsF s.redo)), 0) := by unfold stF; rw [if_neg (by rw [h]; decide), if_neg (fun q => q hr)]
theorem St.ok.ru {s : St} (h : s.ok) : ∀ c ∈ s.undo, R32s c.gone ∧ R32s c.came := fun c hc => ⟨(h.undo c hc).rgone, (h.undo c hc).rcame⟩
theorem St.ok.rr {s : St} (h : s.ok) : ∀ c ∈ s.redo, R32s c.gone ∧ R32s c.came := fun c hc => ⟨(h.redo c hc).rgone, (h.redo c hc).rcame⟩
theorem chsF_le {l : List Ch} (h : ∀ c ∈ l, c.small) : (chsF l).length ≤ 1 + l.length * 16000012 := by
  have := flat_le h
  simp only [chsF, List.length_cons]; omega
set_option maxRecDepth 10000 in
set_option maxHeartbeats 4000000 in
theorem wstate_ok (n : Int) (s : St) (hs : s.ok) : CallOk Try.prog 27 [i64 n, s.x] (.tup [.one (.sr 0), .one (.v (.raw (.int .i64 (stF n s).2)))]) [(5, 1, bs (stF n s).1)] true := by
  have hu : ∀ c ∈ s.undo, c.small := fun c hc => (hs.undo c hc).small
  have hr : ∀ c ∈ s.redo, c.small := fun c hc => (hs.redo c hc).small
  have l1 := pieceF_le s.text; have l2 := chsF_le hu; have l3 := chsF_le hr; have := hs.len; have := hs.ulen; have := hs.rlen
  have hR := right_ok goes_ok s hs
  simp only [St.x] at hR
  refine fn_ok' T_ok (orc_ok _) mixed Try.func27 rfl (by kernel_rfl) (lv [[0, 3], [0, 3, 9], [4, 5], [0, 3, 6], [0, 3, 6, 13], [4, 5], [4, 5]]) 26 rfl (by simp) rfl (fun _ => ⟨rfl, rows_raw⟩) ?_
  simp only [argsG, Nat.zero_add, Nat.reduceAdd, St.x]
  repeat' first
    | ((first
        | ((with_reducible refine vR_cons (by decide) ?_); generalize hk : KtR _ _ _ _ _ _ _ _ _ _ = k)
        | ((first
        | with_reducible refine vOps_cons' ?_
        | ((with_reducible apply orc_b); (focus (exact is_ok _; done)); (all_goals (intro hb; (try simp only [decide_eq_true_eq, decide_eq_false_iff_not, Bool.not_eq_true', Bool.not_eq_false', Bool.and_eq_true, Decidable.not_not] at hb))))
        | ((with_reducible apply orc_i); (focus (exact hR; done)))
        | ((with_reducible apply orc_m); (focus (exact number_ok [] _ (by simp); done)))
        | ((with_reducible apply orc_m); (focus (exact piece_ok _ _ hs.run (by omega) (by simp only [List.length_append, List.length_nil, numB_len]; omega); done)))
        | ((with_reducible apply orc_m); (focus (exact wchanges_ok _ _ (by omega) hu hs.ru (by simp only [List.length_append, List.length_nil, numB_len]; omega); done)))
        | ((with_reducible apply orc_m); (focus (exact wchanges_ok _ _ (by omega) hr hs.rr (by simp only [List.length_append, List.length_nil, numB_len]; omega); done)))) <;> generalize hk : Kt _ _ _ _ _ _ _ _ _ = k)) <;> (simp only [Try.f27, lv, E1, E2, E5, ET, T, orc_mv, noO_mv, mvB, orc_bx, noO_bx, bxB, fwd, fwds, inv, mOk, Int.toNat_natCast, Nat.div_one, Nat.mul_one, Int.reduceToNat, SB, List.not_mem_nil, ↓reduceIte, ne_eq, reduceCtorEq, Nat.reduceLT, Nat.reduceEqDiff, Nat.reduceAdd, Nat.reduceMul, Nat.reduceLeDiff, Nat.reduceDiv, Nat.reduceMod, Nat.reduceSub, Nat.reduceBEq, List.length_map, bs_len, rn_len, chs_len, chs_cnt, List.length_append, List.length_cons, List.length_nil, Ch.x, Opn.x, St.x]; (try simp (disch := omega) only [wrap_in, Int.toNat_natCast, tv_rn]); subst hk))
    | with_reducible first | refine Kt_p ?_ | refine Kt_i (by kernel_rfl) ?_ | refine Kr_f (by kernel_rfl) ?_
    | (with_reducible refine Kr_t ?_; simp only [List.length_append, List.length_cons, List.length_nil, Nat.reduceAdd, Nat.reduceSub, List.drop_succ_cons, List.drop_zero])
    | with_reducible first | refine vR_nil ?_ | refine KtR_i (by kernel_rfl) ?_ | refine KrR_i (by kernel_rfl) ?_ | refine vR_skip (by decide) ?_
    | ((with_reducible refine vB_i ?_ ?_) <;> intro _ <;> (first | (exfalso; omega) | (exact absurd trivial ‹¬True›) | (try dsimp only [])))
    | ((with_reducible refine vOps_nil' ?_); refine Kr_i (by kernel_rfl) ?_; generalize hk : plain _ _ = G; simp only [lv, E3, E2, E5, rawX, deadX, SB, List.not_mem_nil, ↓reduceIte, ne_eq, reduceCtorEq, Nat.reduceLT, Nat.reduceEqDiff, Nat.reduceAdd, Nat.reduceMul, Nat.reduceLeDiff, Nat.reduceDiv, Nat.reduceMod, Nat.reduceSub, Nat.reduceBEq, List.length_map, bs_len, rn_len, chs_len, chs_cnt, List.length_append, List.length_cons, List.length_nil, Ch.x, Opn.x, St.x] at hk; subst hk)
    | with_reducible refine vSeq_i ?_
    | with_reducible first | refine vRegion_i (by kernel_rfl) ?_ | refine Kv_i ?_
    | ((with_reducible apply vStrK_i); (focus (rfl; done)))
    | ((with_reducible refine imp_i ?_); intro _)
    | with_reducible first | refine Ks_n ?_ | refine Ks_r ?_ | refine Ks_e ?_ | refine Kl_e ?_ | refine Kx_n ?_ | refine Kl_r ?_ | refine vRet_i ?_ | refine vSkip_i ?_ | refine vExit_i ?_ | refine vBlock_i ?_ | refine Ks_p ?_ | refine Kl_p ?_ | refine blk_p ?_ | exact Kb_p | refine vGoto_i ?_ | refine vLabel_i ?_ | refine Ks_g ?_ | refine Kl_g ?_ | refine blk_g ?_ | refine jmp_g ?_ | refine jmp_n ?_ | refine jmp_r ?_ | refine nog_n ?_ | refine nog_r ?_ | refine blk_n ?_ | refine blk_r ?_ | refine blk_e ?_ | refine blk_o (by decide) ?_ | refine cp_t ?_ | refine cp_f ?_
    | ((with_reducible apply vCond_x); (focus (simp only [lv, E1, E2, E5, ET, T, orc_mv, noO_mv, mvB, orc_bx, noO_bx, bxB, fwd, fwds, inv, mOk, Int.toNat_natCast, Nat.div_one, Nat.mul_one, Int.reduceToNat, SB, List.not_mem_nil, ↓reduceIte, ne_eq, reduceCtorEq, Nat.reduceLT, Nat.reduceEqDiff, Nat.reduceAdd, Nat.reduceMul, Nat.reduceLeDiff, Nat.reduceDiv, Nat.reduceMod, Nat.reduceSub, Nat.reduceBEq, List.length_map, bs_len, rn_len, chs_len, chs_cnt, List.length_append, List.length_cons, List.length_nil, Ch.x, Opn.x, St.x]; with_reducible first | exact Eq.refl (bo true) | exact Eq.refl (bo false))))
    | ((with_reducible refine And.intro ?_ ?_); (focus (try omega)))
  · rename_i k
    rw [stF_ok (isI_t hb) k]
    refine Kf_r ?_
    simp only [Try.f27, E4, E3, E2, E5, rawX, deadX, ET, T, SB, List.not_mem_nil, ↓reduceIte, ne_eq, reduceCtorEq, Nat.reduceLT, Nat.reduceEqDiff, Nat.reduceAdd, Nat.reduceMul, Nat.reduceLeDiff, Nat.reduceDiv, Nat.reduceMod, Nat.reduceSub, Nat.reduceBEq, List.length_map, bs_len, rn_len, chs_len, chs_cnt, List.length_append, List.length_cons, List.length_nil, Ch.x, Opn.x, St.x, List.append_assoc]
  · rename_i k
    rw [stF_r (isI_t hb) k]
    refine Kf_r ?_
    simp only [Try.f27, E4, E3, E2, E5, rawX, deadX, ET, T, SB, List.not_mem_nil, ↓reduceIte, ne_eq, reduceCtorEq, Nat.reduceLT, Nat.reduceEqDiff, Nat.reduceAdd, Nat.reduceMul, Nat.reduceLeDiff, Nat.reduceDiv, Nat.reduceMod, Nat.reduceSub, Nat.reduceBEq, List.length_map, bs_len, rn_len, chs_len, chs_cnt, List.length_append, List.length_cons, List.length_nil, Ch.x, Opn.x, St.x, bs_nil]
  · rw [stF_n (isI_f hb)]
    refine Kf_r ?_
    simp only [Try.f27, E4, E3, E2, E5, rawX, deadX, ET, T, SB, List.not_mem_nil, ↓reduceIte, ne_eq, reduceCtorEq, Nat.reduceLT, Nat.reduceEqDiff, Nat.reduceAdd, Nat.reduceMul, Nat.reduceLeDiff, Nat.reduceDiv, Nat.reduceMod, Nat.reduceSub, Nat.reduceBEq, List.length_map, bs_len, rn_len, chs_len, chs_cnt, List.length_append, List.length_cons, List.length_nil, Ch.x, Opn.x, St.x, bs_nil]
end Go.Proofs.YtdpflafjfkooeaaG
namespace Go.Proofs.YtdpflafjfkooeaaG
open Go Go.RowKit Go.Proofs Go.Proofs.YtdpflafjfkooeaaG.Dec
set_option linter.unusedSimpArgs false
set_option linter.unusedVariables false
theorem w23a : opF ⟨1, 2, 0, [97, 1488]⟩ = ([1, 0, 0, 0, 2, 97, 215, 144], 0) := by decide
theorem w23b : readOpF [3] = (⟨3, 0, 0, []⟩, 0) := by kernel_rfl
theorem w23c : readOpF [3, 0] = (zOp, 50) := by kernel_rfl
theorem w23d : stF 7 st00 = ([0, 0, 0, 7, 0, 0, 0, 0, 0, 0], 0) := by decide
theorem w23e : readStF [0, 0, 0, 7, 0, 0, 0, 0, 0, 0] = (7, st00, 0) := by kernel_rfl
theorem bytes_lit {l : List Int} (h : l.all fun x => decide (0 ≤ x ∧ x ≤ 255)) : Bytes l := fun x hx => by simpa using List.all_eq_true.1 h x hx
theorem st00_ok : st00.ok := ⟨by simp [st00], by intro m hm; simp [st00] at hm, by intro m hm; simp [st00] at hm, by intro m hm; simp [st00] at hm, by simp [st00], by simp [st00]⟩
set_option maxRecDepth 10000 in
set_option maxHeartbeats 16000000 in
theorem works23_ok : CallOk Try.prog 21 [] (bo true) [] true := by
  have q1 : CallOk Try.prog 22 [.p (.agg [.v (.raw (.int .i64 1)), .v (.raw (.int .i64 2)), .v (.raw (.int .i64 0)), .v (.sl 1 [.raw (.int .i32 97), .raw (.int .i32 1488)])])] (.tup [.one (.sr 0), .one (.v (.raw (.int .i64 0)))]) [(5, 1, bs [1, 0, 0, 0, 2, 97, 215, 144])] true := by
    have h := wop_ok ⟨1, 2, 0, [97, 1488]⟩ (by intro m hm; simp at hm; rcases hm with rfl | rfl <;> exact ⟨by omega, by omega⟩) (by simp)
    rw [w23a] at h
    exact h
  have q2 : CallOk Try.prog 24 [sl [.raw (.int .u8 3)]] (.tup [.agg [.v (.raw (.int .i64 3)), .v (.raw (.int .i64 0)), .v (.raw (.int .i64 0)), .v (.sl 1 [])], .one (.v (.raw (.int .i64 0)))]) [] false := by
    have h := readOp_ok [3] (bytes_lit (by decide)) (by simp)
    rw [w23b] at h
    exact h
  have q3 : CallOk Try.prog 24 [sl [.raw (.int .u8 3), .raw (.int .u8 0)]] (.tup [.agg [.v (.raw (.int .i64 0)), .v (.raw (.int .i64 0)), .v (.raw (.int .i64 0)), .v (.sl 1 [])], .one (.v (.raw (.int .i64 50)))]) [] false := by
    have h := readOp_ok [3, 0] (bytes_lit (by decide)) (by simp)
    rw [w23c] at h
    exact h
  have q4 : CallOk Try.prog 27 [i64 7, .p (.agg [.v (.sl 1 []), .v (.sl 3 []), .v (.sl 3 [])])] (.tup [.one (.sr 0), .one (.v (.raw (.int .i64 0)))]) [(5, 1, bs [0, 0, 0, 7, 0, 0, 0, 0, 0, 0])] true := by
    have h := wstate_ok 7 st00 st00_ok
    rw [w23d] at h
    exact h
  have q5 : CallOk Try.prog 29 [sl (bs [0, 0, 0, 7, 0, 0, 0, 0, 0, 0])] (.tup [.one (.v (.raw (.int .i64 7))), .agg [.v (.sl 1 []), .v (.sl 3 []), .v (.sl 3 [])], .one (.v (.raw (.int .i64 0)))]) [] false := by
    have h := readState_ok [0, 0, 0, 7, 0, 0, 0, 0, 0, 0] ⟨bytes_lit (by decide), by simp⟩
    rw [w23e] at h
    exact h
  refine fn_ok' T_ok (orc_ok _) mixed Try.func21 rfl (by kernel_rfl) (lv [[], [1, 2], [1, 2, 3, 4], [1, 2, 3, 4, 6], [1, 2, 3, 4, 6, 7, 8, 1000007], [1, 2, 3, 4, 6, 7, 8, 9, 11], [0]]) 76 rfl (by simp) rfl (by simp [X.all, PX.all, TV.rawR, SV.isRaw]) ?_
  simp only [argsG, Nat.zero_add, Nat.reduceAdd]
  repeat' first
    | ((first
        | ((with_reducible refine vR_cons (by decide) ?_); generalize hk : KtR _ _ _ _ _ _ _ _ _ _ = k)
        | ((first
        | with_reducible refine vOps_cons' ?_
        | ((with_reducible apply orc_i); (focus (exact q1; done)))
        | ((with_reducible apply orc_i); (focus (exact q2; done)))
        | ((with_reducible apply orc_i); (focus (exact q3; done)))
        | ((with_reducible apply orc_i); (focus (exact q4; done)))
        | ((with_reducible apply orc_i); (focus (exact q5; done)))) <;> generalize hk : Kt _ _ _ _ _ _ _ _ _ = k)) <;> (simp only [Try.f21, lv, E1, E2, E5, ET, T, orc_mv, noO_mv, mvB, orc_bx, noO_bx, bxB, fwd, fwds, inv, mOk, Int.toNat_natCast, Nat.div_one, Nat.mul_one, Int.reduceToNat, SB, List.not_mem_nil, ↓reduceIte, ne_eq, reduceCtorEq, Nat.reduceLT, Nat.reduceEqDiff, Nat.reduceAdd, Nat.reduceMul, Nat.reduceLeDiff, Nat.reduceDiv, Nat.reduceMod, Nat.reduceSub, Nat.reduceBEq, List.length_map, bs_len, rn_len, chs_len, Opn.x, St.x]; (try simp (disch := omega) only [wrap_in, Int.toNat_natCast, tv_rn, tv_bst]); subst hk))
    | with_reducible first | refine Kt_p ?_ | refine Kt_i (by kernel_rfl) ?_ | refine Kr_f (by kernel_rfl) ?_
    | (with_reducible refine Kr_t ?_; simp only [List.length_append, List.length_cons, List.length_nil, Nat.reduceAdd, Nat.reduceSub, List.drop_succ_cons, List.drop_zero])
    | with_reducible first | refine vR_nil ?_ | refine KtR_i (by kernel_rfl) ?_ | refine KrR_i (by kernel_rfl) ?_ | refine vR_skip (by decide) ?_
    | ((with_reducible refine vB_i ?_ ?_) <;> intro _ <;> (first | (exfalso; omega) | (exact absurd trivial ‹¬True›) | (try dsimp only [])))
    | ((with_reducible refine vOps_nil' ?_); refine Kr_i (by kernel_rfl) ?_; generalize hk : plain _ _ = G; simp only [lv, E3, E2, E5, rawX, deadX, SB, List.not_mem_nil, ↓reduceIte, ne_eq, reduceCtorEq, Nat.reduceLT, Nat.reduceEqDiff, Nat.reduceAdd, Nat.reduceMul, Nat.reduceLeDiff, Nat.reduceDiv, Nat.reduceMod, Nat.reduceSub, Nat.reduceBEq, List.length_map, bs_len, rn_len, chs_len, Opn.x, St.x] at hk; subst hk)
    | with_reducible refine vSeq_i ?_
    | with_reducible first | refine vRegion_i (by kernel_rfl) ?_ | refine Kv_i ?_
    | ((with_reducible apply vStrK_i); (focus (rfl; done)))
    | ((with_reducible refine imp_i ?_); intro _)
    | with_reducible first | refine Ks_n ?_ | refine Ks_r ?_ | refine Ks_e ?_ | refine Kl_e ?_ | refine Kx_n ?_ | refine Kl_r ?_ | refine vRet_i ?_ | refine vSkip_i ?_ | refine vExit_i ?_ | refine vBlock_i ?_ | refine Ks_p ?_ | refine Kl_p ?_ | refine blk_p ?_ | exact Kb_p | refine vGoto_i ?_ | refine vLabel_i ?_ | refine Ks_g ?_ | refine Kl_g ?_ | refine blk_g ?_ | refine jmp_g ?_ | refine jmp_n ?_ | refine jmp_r ?_ | refine nog_n ?_ | refine nog_r ?_ | refine blk_n ?_ | refine blk_r ?_ | refine blk_e ?_ | refine blk_o (by decide) ?_ | refine cp_t ?_ | refine cp_f ?_
    | ((with_reducible apply vCond_x); (focus (simp only [lv, E1, E2, E5, ET, T, orc_mv, noO_mv, mvB, orc_bx, noO_bx, bxB, fwd, fwds, inv, mOk, Int.toNat_natCast, Nat.div_one, Nat.mul_one, Int.reduceToNat, SB, List.not_mem_nil, ↓reduceIte, ne_eq, reduceCtorEq, Nat.reduceLT, Nat.reduceEqDiff, Nat.reduceAdd, Nat.reduceMul, Nat.reduceLeDiff, Nat.reduceDiv, Nat.reduceMod, Nat.reduceSub, Nat.reduceBEq, List.length_map, bs_len, rn_len, chs_len, Opn.x, St.x]; with_reducible first | exact Eq.refl (bo true) | exact Eq.refl (bo false))))
    | ((with_reducible refine And.intro ?_ ?_); (focus (try omega)))
  all_goals try (rename_i hne; exact absurd rfl hne)
  all_goals trace_state
  refine Kf_r ?_
  simp only [Try.f21, E4, E3, E2, E5, rawX, deadX, ET, T, SB, List.not_mem_nil, ↓reduceIte, ne_eq, reduceCtorEq, Nat.reduceLT, Nat.reduceEqDiff, Nat.reduceAdd, Nat.reduceMul, Nat.reduceLeDiff, Nat.reduceDiv, Nat.reduceMod, Nat.reduceSub, Nat.reduceBEq, List.length_map, bs_len, rn_len, chs_len, Opn.x, St.x]
end Go.Proofs.YtdpflafjfkooeaaG
namespace Go.Proofs.YtdpflafjfkooeaaG
open Go Go.RowKit Go.Proofs
set_option linter.unusedSimpArgs false
set_option linter.unusedVariables false
theorem opF_le (o : Opn) : (opF o).1.length ≤ 4096 := by
  unfold opF
  (repeat' split) <;> simp only [List.length_nil, List.length_cons, List.length_append, numB_len] <;> omega
end Go.Proofs.YtdpflafjfkooeaaG
