/- YtncabdcaamkhiaaZ14: a part of the proof, joined of its texts. -/
import Derived.Test.YtncabdcaamkhiaaZ13
namespace Go.Proofs.YtncabdcaamkhiaaG
open Go Go.RowKit Go.Proofs
set_option linter.unusedSimpArgs false
set_option linter.unusedVariables false
set_option maxRecDepth 10000 in
set_option maxHeartbeats 4000000 in
theorem gets_ok (t : List Int) (a b : Nat) (e sos : Int) (h1 : a < b) (h2 : b ≤ t.length) (hl : t.length ≤ 2000000) (he : e = 1 ∨ e = 2) (hs : sos = 1 ∨ sos = 2) : CallOk Try.prog 27 [sl (nts t), pr2 a b, i64 e, i64 sos] (i64 (dirF t a b e sos)) [] true := by
  have hI := insF_len h1 h2
  obtain ⟨I, hIe⟩ : ∃ I, I = insF t a b := ⟨_, rfl⟩
  have hIx : cutSV 1 (nts t) ((a : Int) + 1) (b : Int) = nts I := by rw [cut_nts, hIe]; rfl
  have hIl : I.length ≤ 2000000 := by rw [hIe, hI]; omega
  have hD : dirF t a b e sos = if hasF I e = true then e else if hasF I (3 - e) = true then ahd t sos a else 0 := by rw [hIe]; rfl
  have hf : List.take ((b : Int) - ((a : Int) + 1)).toNat (List.drop ((a : Int) + 1).toNat t) = I := hIe.symm
  have hg := ahd_rng t hs a
  refine fn_ok' T_ok (orc_ok _) mixed Try.func27 rfl (by kernel_rfl) (lv [[0, 2, 3, 5], [0, 2, 3, 5, 9], [0, 2, 3, 5, 9, 10], [0, 2, 3, 5, 9, 10, 22], [8], [0, 2, 3, 5, 10, 27], [8], [2, 10, 34], [8], [8]]) 37 rfl (by simp) rfl (by simp [X.all, PX.all, TV.rawR, SV.isRaw]) ?_
  simp only [argsG, Nat.zero_add, Nat.reduceAdd]
  repeat' first
    | ((first
        | ((with_reducible refine vR_cons (by decide) ?_); generalize hk : KtR _ _ _ _ _ _ _ _ _ _ = k)
        | ((first
        | with_reducible refine vOps_cons' ?_
        | ((with_reducible apply orc_b); (focus ((rw [hf]; exact has_ok I _ hIl); done)); (all_goals (intro hb; (try simp only [decide_eq_true_eq, decide_eq_false_iff_not, Bool.not_eq_true', Bool.not_eq_false', Bool.and_eq_true, Decidable.not_not] at hb))))
        | ((with_reducible apply orc_i); (focus (exact ahead_ok t a sos (by omega) hl; done)))) <;> generalize hk : Kt _ _ _ _ _ _ _ _ _ = k)) <;> (simp only [Try.f27, lv, E1, E2, E5, ET, T, orc_mv, noO_mv, mvB, orc_bx, noO_bx, bxB, orc_sx, noO_sx, sxB, fwd, fwds, inv, mOk, Int.toNat_natCast, Nat.div_one, Nat.mul_one, Int.reduceToNat, SB, List.not_mem_nil, ↓reduceIte, ne_eq, reduceCtorEq, Nat.reduceLT, Nat.reduceEqDiff, Nat.reduceAdd, Nat.reduceMul, Nat.reduceLeDiff, Nat.reduceDiv, Nat.reduceMod, Nat.reduceSub, Nat.reduceBEq, List.length_map, rn_len, nts_len, cut_nts, List.length_take, List.length_drop]; (try simp (disch := omega) only [wrap_in, Int.toNat_natCast, tv_rn, tv_nts]); subst hk))
    | with_reducible first | refine Kt_p ?_ | refine Kt_i (by kernel_rfl) ?_ | refine Kr_f (by kernel_rfl) ?_
    | (with_reducible refine Kr_t ?_; simp only [List.length_append, List.length_cons, List.length_nil, Nat.reduceAdd, Nat.reduceSub, List.drop_succ_cons, List.drop_zero])
    | with_reducible first | refine vR_nil ?_ | refine KtR_i (by kernel_rfl) ?_ | refine KrR_i (by kernel_rfl) ?_ | refine vR_skip (by decide) ?_
    | ((with_reducible refine vB_i ?_ ?_) <;> intro _ <;> (first | (exfalso; omega) | (exact absurd trivial ‹¬True›) | (try dsimp only [])))
    | ((with_reducible refine vOps_nil' ?_); refine Kr_i (by kernel_rfl) ?_; generalize hk : plain _ _ = G; simp only [lv, E3, E2, E5, rawX, deadX, SB, List.not_mem_nil, ↓reduceIte, ne_eq, reduceCtorEq, Nat.reduceLT, Nat.reduceEqDiff, Nat.reduceAdd, Nat.reduceMul, Nat.reduceLeDiff, Nat.reduceDiv, Nat.reduceMod, Nat.reduceSub, Nat.reduceBEq, List.length_map, rn_len, nts_len, cut_nts, List.length_take, List.length_drop] at hk; subst hk)
    | with_reducible refine vSeq_i ?_
    | with_reducible first | refine vRegion_i (by kernel_rfl) ?_ | refine Kv_i ?_
    | ((with_reducible apply vStrK_i); (focus (rfl; done)))
    | ((with_reducible refine imp_i ?_); intro _)
    | with_reducible first | refine Ks_n ?_ | refine Ks_r ?_ | refine Ks_e ?_ | refine Kl_e ?_ | refine Kx_n ?_ | refine Kl_r ?_ | refine vRet_i ?_ | refine vSkip_i ?_ | refine vExit_i ?_ | refine vBlock_i ?_ | refine Ks_p ?_ | refine Kl_p ?_ | refine blk_p ?_ | exact Kb_p | refine vGoto_i ?_ | refine vLabel_i ?_ | refine Ks_g ?_ | refine Kl_g ?_ | refine blk_g ?_ | refine jmp_g ?_ | refine jmp_n ?_ | refine jmp_r ?_ | refine nog_n ?_ | refine nog_r ?_ | refine blk_n ?_ | refine blk_r ?_ | refine blk_e ?_ | refine blk_o (by decide) ?_ | refine cp_t ?_ | refine cp_f ?_
    | ((with_reducible apply vCond_x); (focus (simp only [lv, E1, E2, E5, ET, T, orc_mv, noO_mv, mvB, orc_bx, noO_bx, bxB, orc_sx, noO_sx, sxB, fwd, fwds, inv, mOk, Int.toNat_natCast, Nat.div_one, Nat.mul_one, Int.reduceToNat, SB, List.not_mem_nil, ↓reduceIte, ne_eq, reduceCtorEq, Nat.reduceLT, Nat.reduceEqDiff, Nat.reduceAdd, Nat.reduceMul, Nat.reduceLeDiff, Nat.reduceDiv, Nat.reduceMod, Nat.reduceSub, Nat.reduceBEq, List.length_map, rn_len, nts_len, cut_nts, List.length_take, List.length_drop]; with_reducible first | exact Eq.refl (bo true) | exact Eq.refl (bo false))))
    | ((with_reducible refine And.intro ?_ ?_); (focus (try omega)))
  all_goals try (exfalso; omega)
  all_goals refine Kf_r ?_
  all_goals simp only [Try.f27, E4, E3, E2, E5, rawX, deadX, ET, T, SB, List.not_mem_nil, ↓reduceIte, ne_eq, reduceCtorEq, Nat.reduceLT, Nat.reduceEqDiff, Nat.reduceAdd, Nat.reduceMul, Nat.reduceLeDiff, Nat.reduceDiv, Nat.reduceMod, Nat.reduceSub, Nat.reduceBEq, List.length_map, rn_len, nts_len, cut_nts, List.length_take, List.length_drop]
  all_goals rw [hD]
  · rw [if_pos hb]
  · rename_i q0 q; rw [if_neg (by rw [q0]; decide), if_pos hb, q]
  · rename_i q0 q; rw [if_neg (by rw [q0]; decide), if_pos hb]
    have : ahd t sos a = e := by omega
    rw [this]
  · rename_i q0; rw [if_neg (by rw [q0]; decide), if_neg (by rw [hb]; decide)]
def kindF (l t : List Int) (k : Nat) : Int := if t.getD k 0 ≠ 14 then 0 else (brF (l.getD k 0)).1
set_option maxRecDepth 10000 in
set_option maxHeartbeats 4000000 in
theorem kind_ok (l t : List Int) (k : Nat) (h1 : k < t.length) (h2 : t.length = l.length) (hl : l.length ≤ 2000000) : CallOk Try.prog 22 [sl (rn l), sl (nts t), i64 k] (i64 (kindF l t k)) [] true := by
  refine fn_ok' T_ok (orc_ok _) mixed Try.func22 rfl (by kernel_rfl) (lv [[0, 1, 2], [0, 2, 13], [6], [7], [6]]) 23 rfl (by simp) rfl (by simp [X.all, PX.all, TV.rawR, SV.isRaw]) ?_
  simp only [argsG, Nat.zero_add, Nat.reduceAdd]
  repeat' first
    | ((first
        | ((with_reducible refine vR_cons (by decide) ?_); generalize hk : KtR _ _ _ _ _ _ _ _ _ _ = k)
        | ((first
        | with_reducible refine vOps_cons' ?_
        | ((with_reducible apply orc_i); (focus (exact rbracket_ok _; done)))) <;> generalize hk : Kt _ _ _ _ _ _ _ _ _ = k)) <;> (simp only [Try.f22, lv, E1, E2, E5, ET, T, orc_mv, noO_mv, mvB, orc_bx, noO_bx, bxB, orc_sx, noO_sx, sxB, fwd, fwds, inv, mOk, Int.toNat_natCast, Nat.div_one, Nat.mul_one, Int.reduceToNat, SB, List.not_mem_nil, ↓reduceIte, ne_eq, reduceCtorEq, Nat.reduceLT, Nat.reduceEqDiff, Nat.reduceAdd, Nat.reduceMul, Nat.reduceLeDiff, Nat.reduceDiv, Nat.reduceMod, Nat.reduceSub, Nat.reduceBEq, List.length_map, rn_len, nts_len, cut_nts, List.length_take, List.length_drop]; (try simp (disch := omega) only [wrap_in, Int.toNat_natCast, tv_rn, tv_nts]); subst hk))
    | with_reducible first | refine Kt_p ?_ | refine Kt_i (by kernel_rfl) ?_ | refine Kr_f (by kernel_rfl) ?_
    | (with_reducible refine Kr_t ?_; simp only [List.length_append, List.length_cons, List.length_nil, Nat.reduceAdd, Nat.reduceSub, List.drop_succ_cons, List.drop_zero])
    | with_reducible first | refine vR_nil ?_ | refine KtR_i (by kernel_rfl) ?_ | refine KrR_i (by kernel_rfl) ?_ | refine vR_skip (by decide) ?_
    | ((with_reducible refine vB_i ?_ ?_) <;> intro _ <;> (first | (exfalso; omega) | (exact absurd trivial ‹¬True›) | (try dsimp only [])))
    | ((with_reducible refine vOps_nil' ?_); refine Kr_i (by kernel_rfl) ?_; generalize hk : plain _ _ = G; simp only [lv, E3, E2, E5, rawX, deadX, SB, List.not_mem_nil, ↓reduceIte, ne_eq, reduceCtorEq, Nat.reduceLT, Nat.reduceEqDiff, Nat.reduceAdd, Nat.reduceMul, Nat.reduceLeDiff, Nat.reduceDiv, Nat.reduceMod, Nat.reduceSub, Nat.reduceBEq, List.length_map, rn_len, nts_len, cut_nts, List.length_take, List.length_drop] at hk; subst hk)
    | with_reducible refine vSeq_i ?_
    | with_reducible first | refine vRegion_i (by kernel_rfl) ?_ | refine Kv_i ?_
    | ((with_reducible apply vStrK_i); (focus (rfl; done)))
    | ((with_reducible refine imp_i ?_); intro _)
    | with_reducible first | refine Ks_n ?_ | refine Ks_r ?_ | refine Ks_e ?_ | refine Kl_e ?_ | refine Kx_n ?_ | refine Kl_r ?_ | refine vRet_i ?_ | refine vSkip_i ?_ | refine vExit_i ?_ | refine vBlock_i ?_ | refine Ks_p ?_ | refine Kl_p ?_ | refine blk_p ?_ | exact Kb_p | refine vGoto_i ?_ | refine vLabel_i ?_ | refine Ks_g ?_ | refine Kl_g ?_ | refine blk_g ?_ | refine jmp_g ?_ | refine jmp_n ?_ | refine jmp_r ?_ | refine nog_n ?_ | refine nog_r ?_ | refine blk_n ?_ | refine blk_r ?_ | refine blk_e ?_ | refine blk_o (by decide) ?_ | refine cp_t ?_ | refine cp_f ?_
    | ((with_reducible apply vCond_x); (focus (simp only [lv, E1, E2, E5, ET, T, orc_mv, noO_mv, mvB, orc_bx, noO_bx, bxB, orc_sx, noO_sx, sxB, fwd, fwds, inv, mOk, Int.toNat_natCast, Nat.div_one, Nat.mul_one, Int.reduceToNat, SB, List.not_mem_nil, ↓reduceIte, ne_eq, reduceCtorEq, Nat.reduceLT, Nat.reduceEqDiff, Nat.reduceAdd, Nat.reduceMul, Nat.reduceLeDiff, Nat.reduceDiv, Nat.reduceMod, Nat.reduceSub, Nat.reduceBEq, List.length_map, rn_len, nts_len, cut_nts, List.length_take, List.length_drop]; with_reducible first | exact Eq.refl (bo true) | exact Eq.refl (bo false))))
    | ((with_reducible refine And.intro ?_ ?_); (focus (try omega)))
  all_goals try (exfalso; omega)
  all_goals refine Kf_r ?_
  all_goals simp only [Try.f22, E4, E3, E2, E5, rawX, deadX, ET, T, SB, List.not_mem_nil, ↓reduceIte, ne_eq, reduceCtorEq, Nat.reduceLT, Nat.reduceEqDiff, Nat.reduceAdd, Nat.reduceMul, Nat.reduceLeDiff, Nat.reduceDiv, Nat.reduceMod, Nat.reduceSub, Nat.reduceBEq, List.length_map, rn_len, nts_len, cut_nts, List.length_take, List.length_drop]
  all_goals unfold kindF
  · rename_i h; rw [if_neg (by omega)]
  · rename_i h; rw [if_pos h]
def endsF (l : List Int) (o c : Nat) : Bool := decide (canF (brF (l.getD o 0)).2 = canF (l.getD c 0))
set_option maxRecDepth 10000 in
set_option maxHeartbeats 4000000 in
theorem ends_ok (l : List Int) (o c : Nat) (h1 : o < l.length) (h2 : c < l.length) (hl : l.length ≤ 2000000) : CallOk Try.prog 23 [sl (rn l), i64 o, i64 c] (bo (endsF l o c)) [] true := by
  refine fn_ok' T_ok (orc_ok _) mixed Try.func23 rfl (by kernel_rfl) (lv [[0, 1, 2], [0, 2, 8], [6]]) 25 rfl (by simp) rfl (by simp [X.all, PX.all, TV.rawR, SV.isRaw]) ?_
  simp only [argsG, Nat.zero_add, Nat.reduceAdd]
  repeat' first
    | ((first
        | ((with_reducible refine vR_cons (by decide) ?_); generalize hk : KtR _ _ _ _ _ _ _ _ _ _ = k)
        | ((first
        | with_reducible refine vOps_cons' ?_
        | ((with_reducible apply orc_i); (focus (exact rbracket_ok _; done)))
        | ((with_reducible apply orc_i); (focus (exact canon1_ok _; done)))) <;> generalize hk : Kt _ _ _ _ _ _ _ _ _ = k)) <;> (simp only [Try.f23, lv, E1, E2, E5, ET, T, orc_mv, noO_mv, mvB, orc_bx, noO_bx, bxB, orc_sx, noO_sx, sxB, fwd, fwds, inv, mOk, Int.toNat_natCast, Nat.div_one, Nat.mul_one, Int.reduceToNat, SB, List.not_mem_nil, ↓reduceIte, ne_eq, reduceCtorEq, Nat.reduceLT, Nat.reduceEqDiff, Nat.reduceAdd, Nat.reduceMul, Nat.reduceLeDiff, Nat.reduceDiv, Nat.reduceMod, Nat.reduceSub, Nat.reduceBEq, List.length_map, rn_len, nts_len, cut_nts, List.length_take, List.length_drop]; (try simp (disch := omega) only [wrap_in, Int.toNat_natCast, tv_rn, tv_nts]); subst hk))
    | with_reducible first | refine Kt_p ?_ | refine Kt_i (by kernel_rfl) ?_ | refine Kr_f (by kernel_rfl) ?_
    | (with_reducible refine Kr_t ?_; simp only [List.length_append, List.length_cons, List.length_nil, Nat.reduceAdd, Nat.reduceSub, List.drop_succ_cons, List.drop_zero])
    | with_reducible first | refine vR_nil ?_ | refine KtR_i (by kernel_rfl) ?_ | refine KrR_i (by kernel_rfl) ?_ | refine vR_skip (by decide) ?_
    | ((with_reducible refine vB_i ?_ ?_) <;> intro _ <;> (first | (exfalso; omega) | (exact absurd trivial ‹¬True›) | (try dsimp only [])))
    | ((with_reducible refine vOps_nil' ?_); refine Kr_i (by kernel_rfl) ?_; generalize hk : plain _ _ = G; simp only [lv, E3, E2, E5, rawX, deadX, SB, List.not_mem_nil, ↓reduceIte, ne_eq, reduceCtorEq, Nat.reduceLT, Nat.reduceEqDiff, Nat.reduceAdd, Nat.reduceMul, Nat.reduceLeDiff, Nat.reduceDiv, Nat.reduceMod, Nat.reduceSub, Nat.reduceBEq, List.length_map, rn_len, nts_len, cut_nts, List.length_take, List.length_drop] at hk; subst hk)
    | with_reducible refine vSeq_i ?_
    | with_reducible first | refine vRegion_i (by kernel_rfl) ?_ | refine Kv_i ?_
    | ((with_reducible apply vStrK_i); (focus (rfl; done)))
    | ((with_reducible refine imp_i ?_); intro _)
    | with_reducible first | refine Ks_n ?_ | refine Ks_r ?_ | refine Ks_e ?_ | refine Kl_e ?_ | refine Kx_n ?_ | refine Kl_r ?_ | refine vRet_i ?_ | refine vSkip_i ?_ | refine vExit_i ?_ | refine vBlock_i ?_ | refine Ks_p ?_ | refine Kl_p ?_ | refine blk_p ?_ | exact Kb_p | refine vGoto_i ?_ | refine vLabel_i ?_ | refine Ks_g ?_ | refine Kl_g ?_ | refine blk_g ?_ | refine jmp_g ?_ | refine jmp_n ?_ | refine jmp_r ?_ | refine nog_n ?_ | refine nog_r ?_ | refine blk_n ?_ | refine blk_r ?_ | refine blk_e ?_ | refine blk_o (by decide) ?_ | refine cp_t ?_ | refine cp_f ?_
    | ((with_reducible apply vCond_x); (focus (simp only [lv, E1, E2, E5, ET, T, orc_mv, noO_mv, mvB, orc_bx, noO_bx, bxB, orc_sx, noO_sx, sxB, fwd, fwds, inv, mOk, Int.toNat_natCast, Nat.div_one, Nat.mul_one, Int.reduceToNat, SB, List.not_mem_nil, ↓reduceIte, ne_eq, reduceCtorEq, Nat.reduceLT, Nat.reduceEqDiff, Nat.reduceAdd, Nat.reduceMul, Nat.reduceLeDiff, Nat.reduceDiv, Nat.reduceMod, Nat.reduceSub, Nat.reduceBEq, List.length_map, rn_len, nts_len, cut_nts, List.length_take, List.length_drop]; with_reducible first | exact Eq.refl (bo true) | exact Eq.refl (bo false))))
    | ((with_reducible refine And.intro ?_ ?_); (focus (try omega)))
  all_goals try (exfalso; omega)
  all_goals refine Kf_r ?_
  all_goals simp only [Try.f23, E4, E3, E2, E5, rawX, deadX, ET, T, SB, List.not_mem_nil, ↓reduceIte, ne_eq, reduceCtorEq, Nat.reduceLT, Nat.reduceEqDiff, Nat.reduceAdd, Nat.reduceMul, Nat.reduceLeDiff, Nat.reduceDiv, Nat.reduceMod, Nat.reduceSub, Nat.reduceBEq, List.length_map, rn_len, nts_len, cut_nts, List.length_take, List.length_drop, X.p.injEq, X.tup.injEq, PX.one.injEq, PX.agg.injEq, TV.v.injEq, TV.sr.injEq, SV.raw.injEq, SV.sl.injEq, Value.bool.injEq, Value.int.injEq, List.cons.injEq, Prod.mk.injEq, true_and, and_true, and_self]
  all_goals unfold endsF
  · rename_i q; rw [decide_eq_true q]
  · rename_i q; rw [decide_eq_false q]
end Go.Proofs.YtncabdcaamkhiaaG
namespace Go.Proofs.YtncabdcaamkhiaaG
open Go Go.RowKit Go.Proofs
set_option linter.unusedSimpArgs false
set_option linter.unusedVariables false
/-! ### the machine of pairs -/
/-- The place of the newest opening that i ends, among the first k. -/
def fnd (l : List Int) (W : List Nat) (i : Nat) : Nat → Option Nat
  | 0 => none
  | k + 1 => if endsF l (W.getD k 0) i = true then some k else fnd l W i k
abbrev WS := List Nat × List (Int × Int)
def stW (l t : List Int) : Nat → WS × Bool
  | 0 => (([], []), false)
  | i + 1 =>
    if (stW l t i).2 = true then stW l t i
    else if kindF l t i = 1 then (if (stW l t i).1.1.length = 63 then ((stW l t i).1, true) else (((stW l t i).1.1 ++ [i], (stW l t i).1.2), false))
    else if kindF l t i = 2 then (match fnd l (stW l t i).1.1 i (stW l t i).1.1.length with
      | none => stW l t i
      | some k => (((stW l t i).1.1.take k, (stW l t i).1.2 ++ [((((stW l t i).1.1.getD k 0 : Nat) : Int), (i : Int))]), false))
    else stW l t i
theorem fnd_lt {l : List Int} {W : List Nat} {i : Nat} : ∀ {n k}, fnd l W i n = some k → k < n ∧ endsF l (W.getD k 0) i = true
  | 0, _, h => by cases h
  | n + 1, k, h => by
    unfold fnd at h
    split at h
    · rename_i q; cases h; exact ⟨by omega, q⟩
    · have := fnd_lt h; exact ⟨by omega, this.2⟩
structure Wok (i : Nat) (z : WS) : Prop where
  lt : ∀ j ∈ z.1, j < i
  nd : (z.1.map (fun (j : Nat) => (j : Int)) ++ z.2.map (·.1)).Nodup
  len : z.1.length ≤ 63
  pr : ∀ p ∈ z.2, 0 ≤ p.1 ∧ p.1 < p.2 ∧ p.2 < (i : Int)
theorem Wok.mono {i j : Nat} {z : WS} (h : Wok i z) (hij : i ≤ j) : Wok j z :=
  ⟨fun x hx => Nat.lt_of_lt_of_le (h.lt x hx) hij, h.nd, h.len, fun p hp => by have := h.pr p hp; omega⟩
theorem getD_el {W : List Nat} {k : Nat} (h : k < W.length) : W.getD k 0 = W[k] := by
  rw [List.getD_eq_getElem?_getD, List.getElem?_eq_getElem h]; rfl
theorem getD_mem {W : List Nat} {k : Nat} (h : k < W.length) : W.getD k 0 ∈ W := by
  rw [getD_el h]; exact List.getElem_mem h
theorem stW_ok (l t : List Int) : ∀ i, Wok i (stW l t i).1
  | 0 => ⟨by simp [stW], by simp [stW], by simp [stW], by simp [stW]⟩
  | i + 1 => by
    have ih := stW_ok l t i
    unfold stW
    split
    · exact ih.mono (Nat.le_succ _)
    · split
      · split
        · exact ih.mono (Nat.le_succ _)
        · rename_i hq
          refine ⟨fun j hj => ?_, ?_, ?_, fun p hp => ?_⟩
          · simp only [List.mem_append, List.mem_singleton] at hj
            rcases hj with hj | rfl
            · have := ih.lt j hj; omega
            · omega
          · have h1 := ih.nd
            have h2 : (i : Int) ∉ (stW l t i).1.1.map (fun (j : Nat) => (j : Int)) ++ (stW l t i).1.2.map (·.1) := by
              intro hm
              rcases List.mem_append.1 hm with hm | hm
              · obtain ⟨j, hj, e⟩ := List.mem_map.1 hm
                have := ih.lt j hj; omega
              · obtain ⟨p, hp, e⟩ := List.mem_map.1 hm
                have := ih.pr p hp; omega
            simp only [List.map_append, List.map_cons, List.map_nil, List.append_assoc]
            rw [List.nodup_append] at h1 ⊢
            simp only [List.mem_append, not_or] at h2
            refine ⟨h1.1, ?_, ?_⟩
            · simp only [List.cons_append, List.nil_append, List.nodup_cons]
              exact ⟨h2.2, h1.2.1⟩
            · intro a ha b hb e
              simp only [List.cons_append, List.nil_append, List.mem_cons] at hb
              rcases hb with rfl | hb
              · exact h2.1 (e ▸ ha)
              · exact h1.2.2 a ha b hb e
          · have := ih.len
            simp only [List.length_append, List.length_cons, List.length_nil]; omega
          · have := ih.pr p hp; omega
      · split
        · split
          · exact ih.mono (Nat.le_succ _)
          · rename_i k hk
            have hk' := (fnd_lt hk).1
            have hm := getD_mem hk'
            refine ⟨fun j hj => ?_, ?_, ?_, fun p hp => ?_⟩
            · have := ih.lt j (List.mem_of_mem_take hj); omega
            · have h1 := ih.nd
              rw [List.nodup_append] at h1 ⊢
              have hs : (List.take k (stW l t i).1.1 ++ [(stW l t i).1.1.getD k 0]).Sublist (stW l t i).1.1 := by
                have : List.take k (stW l t i).1.1 ++ [(stW l t i).1.1.getD k 0] = List.take (k + 1) (stW l t i).1.1 := by
                  rw [List.take_add_one, getD_el hk', List.getElem?_eq_getElem hk']; rfl
                rw [this]; exact List.take_sublist _ _
              have hd := List.Nodup.sublist (hs.map fun (j : Nat) => (j : Int)) h1.1
              simp only [List.map_append, List.map_cons, List.map_nil] at hd ⊢
              rw [List.nodup_append] at hd
              refine ⟨hd.1, ?_, ?_⟩
              · rw [List.nodup_append]
                refine ⟨h1.2.1, by simp, fun a ha b hb e => ?_⟩
                simp only [List.mem_singleton] at hb
                exact h1.2.2 b (hb ▸ List.mem_map.2 ⟨_, hm, rfl⟩) a ha e.symm
              · intro a ha b hb e
                rcases List.mem_append.1 hb with hb | hb
                · exact h1.2.2 a ((List.take_sublist _ _).map _ |>.subset ha) b hb e
                · exact hd.2.2 a ha b hb e
            · have := ih.len
              simp only [List.length_take]; omega
            · rcases List.mem_append.1 hp with hp | hp
              · have := ih.pr p hp; omega
              · simp only [List.mem_singleton] at hp
                have := ih.lt _ hm
                subst hp
                refine ⟨by simp, ?_, ?_⟩ <;> simp only [] <;> omega
        · exact ih.mono (Nat.le_succ _)
theorem stW_stop (l t : List Int) {i : Nat} (h : (stW l t i).2 = true) : ∀ n, i ≤ n → stW l t n = stW l t i
  | 0, hn => by rw [show i = 0 by omega]
  | n + 1, hn => by
    rcases Nat.lt_or_eq_of_le hn with q | q
    · have := stW_stop l t h n (by omega)
      rw [stW, this, if_pos h]
    · rw [q]
/-- The pairs, rising. -/
def rising (n : Nat) (O : List (Int × Int)) : List (Int × Int) := (List.range n).filterMap fun (i : Nat) => O.find? fun p => p.1 == (i : Int)
def prsF (l t : List Int) : List (Int × Int) := rising l.length (stW l t l.length).1.2
theorem rising_mem {n : Nat} {O : List (Int × Int)} (hn : (O.map (·.1)).Nodup) (hb : ∀ p ∈ O, 0 ≤ p.1 ∧ p.1 < (n : Int)) (p : Int × Int) : p ∈ rising n O ↔ p ∈ O := by
  unfold rising
  simp only [List.mem_filterMap, List.mem_range]
  constructor
  · rintro ⟨i, _, h⟩; exact List.mem_of_find?_eq_some h
  · intro h
    have hp := hb p h
    refine ⟨p.1.toNat, by omega, ?_⟩
    clear hb
    induction O with
    | nil => cases h
    | cons q O ih =>
      simp only [List.map_cons, List.nodup_cons] at hn
      rw [List.find?_cons]
      rcases List.mem_cons.1 h with rfl | h'
      · rw [show (p.1 == (p.1.toNat : Int)) = true by rw [beq_iff_eq]; omega]
      · have hne : ¬ q.1 = p.1 := fun e => hn.1 (e ▸ List.mem_map.2 ⟨p, h', rfl⟩)
        rw [show (q.1 == (p.1.toNat : Int)) = false by rw [beq_eq_false_iff_ne]; omega]
        exact ih hn.2 h'
theorem rising_sorted (n : Nat) (O : List (Int × Int)) : (rising n O).Pairwise fun x y => x.1 < y.1 := by
  unfold rising
  refine List.Pairwise.filterMap _ ?_ (List.pairwise_lt_range (n := n))
  intro a b hab x hx y hy
  have h1 := List.find?_some hx
  have h2 := List.find?_some hy
  simp only [beq_iff_eq] at h1 h2
  omega
theorem perm_of_mem {l l' : List (Int × Int)} (h : l.Nodup) (h' : l'.Nodup) (hm : ∀ p, p ∈ l ↔ p ∈ l') : l.Perm l' := by
  rw [List.perm_iff_count]
  intro a
  have h1 := List.nodup_iff_count.1 h a
  have h2 := List.nodup_iff_count.1 h' a
  have h3 : 0 < l.count a ↔ 0 < l'.count a := by rw [List.count_pos_iff, List.count_pos_iff]; exact hm a
  omega
theorem nodup_of_map {l : List (Int × Int)} (h : (l.map (·.1)).Nodup) : l.Nodup := by
  induction l with
  | nil => exact List.nodup_nil
  | cons a l ih =>
    simp only [List.map_cons, List.nodup_cons] at h
    exact List.nodup_cons.2 ⟨fun q => h.1 (List.mem_map.2 ⟨a, q, rfl⟩), ih h.2⟩
theorem rising_perm {n : Nat} {O : List (Int × Int)} (hn : (O.map (·.1)).Nodup) (hb : ∀ p ∈ O, 0 ≤ p.1 ∧ p.1 < (n : Int)) : (rising n O).Perm O := by
  refine perm_of_mem ?_ (nodup_of_map hn) (rising_mem hn hb)
  refine (rising_sorted n O).imp ?_
  intro a b h e
  subst e; omega
end Go.Proofs.YtncabdcaamkhiaaG
/- M2: pairs of places are sorted in their place (slices.SortFunc, by the library's own contract). -/
namespace Go.Proofs.YtncabdcaamkhiaaG
open Go Go.RowKit Go.Shelf Go.Lib Go.Sort Go.Proofs
set_option linter.unusedVariables false
set_option linter.unusedSimpArgs false
def sortP_ren : Go.Shelf.Ren := ⟨fun | 6 => 20 | 15 => 31 | 14 => 30 | 28 => 46 | 29 => 47 | 20 => 38 | 21 => 39 | 22 => 40 | 23 => 41 | 24 => 42 | 25 => 43 | 26 => 44 | 27 => 45 | 46 => 50 | 47 => 51 | 48 => 52 | 49 => 53 | 50 => 54 | 57 => 55 | n => n, fun | 22 => 25 | 24 => 42 | 25 => 54 | 3 => 3 | 39 => 65 | 0 => 0 | 53 => 79 | 55 => 47 | 4 => 4 | 46 => 72 | 45 => 71 | 50 => 76 | 5 => 5 | 9 => 9 | 66 => 83 | 70 => 87 | 76 => 89 | 77 => 90 | n => n, fun | n => n⟩
theorem sortP : Go.Proofs.SlLaysF0.n6 Try.prog sortP_ren where
  mixed := by kernel_rfl
  f6 := ⟨Try.f20.name, by kernel_rfl, Try.func20.trans (congrArg some (by kernel_rfl))⟩
  f14 := ⟨Try.f30.name, by kernel_rfl, Try.func30.trans (congrArg some (by kernel_rfl))⟩
  f15 := Try.func31.trans (congrArg some (by kernel_rfl))
  f20 := ⟨Try.f38.name, by kernel_rfl, Try.func38.trans (congrArg some (by kernel_rfl))⟩
  f21 := ⟨Try.f39.name, by kernel_rfl, Try.func39.trans (congrArg some (by kernel_rfl))⟩
  f22 := ⟨Try.f40.name, by kernel_rfl, Try.func40.trans (congrArg some (by kernel_rfl))⟩
  f23 := ⟨Try.f41.name, by kernel_rfl, Try.func41.trans (congrArg some (by kernel_rfl))⟩
  f24 := ⟨Try.f42.name, by kernel_rfl, Try.func42.trans (congrArg some (by kernel_rfl))⟩
  f25 := ⟨Try.f43.name, by kernel_rfl, Try.func43.trans (congrArg some (by kernel_rfl))⟩
  f26 := ⟨Try.f44.name, by kernel_rfl, Try.func44.trans (congrArg some (by kernel_rfl))⟩
  f27 := ⟨Try.f45.name, by kernel_rfl, Try.func45.trans (congrArg some (by kernel_rfl))⟩
  f28 := Try.func46.trans (congrArg some (by kernel_rfl))
  f29 := Try.func47.trans (congrArg some (by kernel_rfl))
  f46 := ⟨Try.f50.name, by kernel_rfl, Try.func50.trans (congrArg some (by kernel_rfl))⟩
  f47 := Try.func51.trans (congrArg some (by kernel_rfl))
  f48 := Try.func52.trans (congrArg some (by kernel_rfl))
  f49 := ⟨Try.f53.name, by kernel_rfl, Try.func53.trans (congrArg some (by kernel_rfl))⟩
  f50 := ⟨Try.f54.name, by kernel_rfl, Try.func54.trans (congrArg some (by kernel_rfl))⟩
  f57 := ⟨Try.f55.name, by kernel_rfl, Try.func55.trans (congrArg some (by kernel_rfl))⟩
  t0 := Try.underlying0
  a0 := Try.isAgg0
  z0 := Try.sizeOf0
  v0 := Try.zeroValue0
  t3 := Try.underlying3
  a3 := Try.isAgg3
  z3 := Try.sizeOf3
  v3 := Try.zeroValue3
  t4 := Try.underlying4
  a4 := Try.isAgg4
  z4 := Try.sizeOf4
  v4 := Try.zeroValue4
  t5 := Try.underlying5
  a5 := Try.isAgg5
  z5 := Try.sizeOf5
  v5 := Try.zeroValue5
  t9 := Try.underlying9
  a9 := Try.isAgg9
  z9 := Try.sizeOf9
  v9 := Try.zeroValue9
  t22 := Try.underlying25
  a22 := Try.isAgg25
  z22 := Try.sizeOf25
  v22 := Try.zeroValue25
  t25 := Try.underlying54
  a25 := Try.isAgg54
  z25 := Try.sizeOf54
  v25 := Try.zeroValue54
  t39 := Try.underlying65
  a39 := Try.isAgg65
  z39 := Try.sizeOf65
  v39 := Try.zeroValue65
  t45 := Try.underlying71
  a45 := Try.isAgg71
  z45 := Try.sizeOf71
  v45 := Try.zeroValue71
  t46 := Try.underlying72
  a46 := Try.isAgg72
  z46 := Try.sizeOf72
  v46 := Try.zeroValue72
  t50 := Try.underlying76
  a50 := Try.isAgg76
  z50 := Try.sizeOf76
  v50 := Try.zeroValue76
  t53 := Try.underlying79
  a53 := Try.isAgg79
  z53 := Try.sizeOf79
  v53 := Try.zeroValue79
  t55 := Try.underlying47
  a55 := Try.isAgg47
  z55 := Try.sizeOf47
  v55 := Try.zeroValue47
  t66 := Try.underlying83
  a66 := Try.isAgg83
  z66 := Try.sizeOf83
  v66 := Try.zeroValue83
  t70 := Try.underlying87
  a70 := Try.isAgg87
  z70 := Try.sizeOf87
  v70 := Try.zeroValue87
  t76 := Try.underlying89
  a76 := Try.isAgg89
  z76 := Try.sizeOf89
  v76 := Try.zeroValue89
  t77 := Try.underlying90
  a77 := Try.isAgg90
  z77 := Try.sizeOf90
  v77 := Try.zeroValue90
/-- A pair, its first number a place. -/
abbrev P2 := Fin 1099511627776 × Int
def enc2 (x : P2) : List Value := [.int .i64 (x.1.val : Int), .int .i64 x.2]
def cf2 (x y : P2) : Int := (x.1.val : Int) - (y.1.val : Int)
theorem lt2 (x y : P2) : ltOf cf2 x y = decide (x.1.val < y.1.val) := by
  unfold ltOf cf2
  by_cases h : x.1.val < y.1.val
  · simp only [h, decide_true]; exact decide_eq_true (by omega)
  · simp only [h, decide_false]; exact decide_eq_false (by omega)
theorem swo2 : SWO (ltOf cf2) where
  irrefl x := by rw [lt2]; simp
  trans x y z h1 h2 := by rw [lt2] at *; simp at *; omega
  ntrans x y z h1 h2 := by rw [lt2] at *; simp at *; omega
theorem closure21 (x y : P2) (W : World) : Calls Try.prog 21 #[.agg #[.int .i64 (x.1.val : Int), .int .i64 x.2], .agg #[.int .i64 (y.1.val : Int), .int .i64 y.2]] W fun e w' => e = .returned (.int .i64 (cf2 x y)) ∧ ∃ q os', w' = grow (W.drewN q) os' := by
  have hx := x.1.isLt
  have hy := y.1.isLt
  have hw : IntKind.i64.wrap ((x.1.val : Int) - (y.1.val : Int)) = cf2 x y := by unfold cf2; rw [wrap_in (by omega) (by omega)]
  generalize cf2 x y = r at hw ⊢
  generalize (x.1.val : Int) = a at hw ⊢
  generalize (y.1.val : Int) = b at hw ⊢
  go_enter Try.func21, Try.ntmps21
  go_wp2
  go_ret
  exact ⟨rfl, 0, _, by rw [alloc_eq_grow, alloc_eq_grow, grow_grow]; rfl⟩
theorem eg21 : ∀ args w, (callFunc 21 args).run Try.prog w = .ok (.enter 21 args) w := enters_of Try.func21 (by kernel_rfl) rfl
theorem lays21 (blk off size : Nat) (w : World) : CmpLays Try.prog 21 #[] enc2 2 cf2 blk off size w := fun _ _ _ _ x y => closure21 x y _
def cells2 (l : List P2) : List Value := l.flatMap enc2
theorem cells2_len (l : List P2) : (cells2 l).length = l.length * 2 := by
  induction l with
  | nil => rfl
  | cons x l ih => simp only [cells2, List.flatMap_cons, List.length_append, List.length_cons] at ih ⊢; rw [ih]; simp only [enc2, List.length_cons, List.length_nil]; omega
theorem cells2_at : ∀ (l : List P2) (t : Nat), t < l.length * 2 → (cells2 l)[t]? = some ((enc2 (l.getD (t / 2) default))[t % 2]!)
  | [], t, h => by simp at h
  | x :: l, 0, h => rfl
  | x :: l, 1, h => rfl
  | x :: l, t + 2, h => by
    have ih := cells2_at l t (by simp only [List.length_cons] at h; omega)
    have e1 : (t + 2) / 2 = t / 2 + 1 := by omega
    have e2 : (t + 2) % 2 = t % 2 := by omega
    rw [e1, e2]
    exact ih
theorem flat_eq (d : Array P2) : (flatK enc2 2 d).toList = cells2 d.toList := by
  apply List.ext_getElem?
  intro t
  by_cases h : t < d.size * 2
  · rw [cells2_at d.toList t (by simpa using h)]
    have hs : t < (flatK enc2 2 d).size := by simpa using h
    rw [Array.getElem?_toList, Array.getElem?_eq_getElem hs]
    congr 1
    have := get_flatK enc2 2 d t h
    rw [getElem!_pos _ t hs] at this
    rw [this]
    congr 2
    simp [List.getD, Array.getD, getElem!_def]
    cases d[t / 2]? <;> rfl
  · rw [List.getElem?_eq_none (by simpa using h), List.getElem?_eq_none (by rw [cells2_len]; simpa using h)]
/-- Pairs, by cells. -/
def prs (l : List (Int × Int)) : List SV := l.flatMap fun p => [.raw (.int .i64 p.1), .raw (.int .i64 p.2)]
theorem prs_len (l : List (Int × Int)) : (prs l).length = 2 * l.length := by
  induction l with
  | nil => rfl
  | cons x l ih => simp only [prs, List.flatMap_cons, List.length_append, List.length_cons, List.length_nil] at ih ⊢; omega
def toP (p : Int × Int) : P2 := (Fin.ofNat _ p.1.toNat, p.2)
def ofP (x : P2) : Int × Int := ((x.1.val : Int), x.2)
theorem ofP_toP {p : Int × Int} (h : 0 ≤ p.1 ∧ p.1 < 1099511627776) : ofP (toP p) = p := by
  unfold ofP toP
  have e : (Fin.ofNat 1099511627776 p.1.toNat).val = p.1.toNat := by
    show p.1.toNat % 1099511627776 = _
    exact Nat.mod_eq_of_lt (by omega)
  rw [Prod.ext_iff]
  exact ⟨by simp only [e]; omega, rfl⟩
theorem prs_cells {w : World} {o : Nat → Tag} {vs : List Value} : ∀ {l : List (Int × Int)}, All2 (SVR w o) vs (prs l) → vs = l.flatMap fun p => [.int .i64 p.1, .int .i64 p.2]
  | [], h => List.eq_nil_of_length_eq_zero (by have := h.1; simpa [prs] using this)
  | p :: l, h => by
    match vs, h with
    | [], h => have := h.1; simp [prs] at this
    | [a], h => have := h.1; simp [prs] at this
    | a :: b :: r, h =>
      have h' : All2 (SVR w o) (a :: b :: r) (.raw (.int .i64 p.1) :: .raw (.int .i64 p.2) :: prs l) := h
      have e1 : a = .int .i64 p.1 := by cases h'.head; rfl
      have e2 : b = .int .i64 p.2 := by cases h'.tail.head; rfl
      have e3 := prs_cells h'.tail.tail
      rw [e1, e2, e3]
      rfl
theorem prs_all2 (w : World) (o : Nat → Tag) : ∀ (l : List P2), All2 (SVR w o) (cells2 l) (prs (l.map ofP))
  | [] => .nil
  | x :: l => .cons (.raw _ rfl) (.cons (.raw _ rfl) (prs_all2 w o l))
theorem cells2_to {l : List (Int × Int)} (h : ∀ p ∈ l, 0 ≤ p.1 ∧ p.1 < 1099511627776) : (l.flatMap fun p => [Value.int .i64 p.1, Value.int .i64 p.2]) = cells2 (l.map toP) := by
  induction l with
  | nil => rfl
  | cons p l ih =>
    have hp := ofP_toP (h p (by simp))
    rw [List.flatMap_cons, ih fun q hq => h q (by simp [hq]), List.map_cons]
    show _ = enc2 (toP p) ++ cells2 (l.map toP)
    congr 1
    show [Value.int .i64 p.1, Value.int .i64 p.2] = [Value.int .i64 (ofP (toP p)).1, Value.int .i64 (ofP (toP p)).2]
    rw [hp]
/-- Two rising lists of the same pairs are one. -/
theorem rise_one : ∀ {a b : List (Int × Int)}, a.Perm b → a.Pairwise (fun x y => x.1 < y.1) → b.Pairwise (fun x y => x.1 < y.1) → a = b
  | [], b, hp, _, _ => hp.nil_eq
  | x :: a, [], hp, _, _ => absurd hp.length_eq (by simp)
  | x :: a, y :: b, hp, ha, hb => by
    obtain ⟨ha1, ha2⟩ := List.pairwise_cons.1 ha
    obtain ⟨hb1, hb2⟩ := List.pairwise_cons.1 hb
    have hxy : x = y := by
      rcases List.mem_cons.1 (hp.mem_iff.1 (List.mem_cons_self : x ∈ x :: a)) with h | h
      · exact h
      · rcases List.mem_cons.1 (hp.mem_iff.2 (List.mem_cons_self : y ∈ y :: b)) with h' | h'
        · exact h'.symm
        · have h1 := hb1 x h
          have h2 := ha1 y h'
          omega
    subst hxy
    rw [rise_one ((List.perm_cons x).1 hp) ha2 hb2]
theorem put_at (w : World) (m blk : Nat) (F : Array Value) (os : Array Obj) {cur : Array Value} {ty : Nat} {f : Nat × Nat} (h : w.heap[blk]? = some (.cells cur ty f)) :
    (grow (putRow id (Sort.ahead w m) blk 0 F) os).heap[blk]? = some (.cells (putCells id 0 F cur) ty f) := by
  have hlt : blk < w.heap.size := by
    rcases Nat.lt_or_ge blk w.heap.size with h' | h'
    · exact h'
    · simp [Array.getElem?_eq_none h'] at h
  show ((w.heap.modify blk (onCells (putCells id 0 F))) ++ os)[blk]? = _
  rw [Array.getElem?_append_left (by simpa using hlt), Array.getElem?_modify, if_pos rfl, h]
  rfl
theorem put_other (w : World) (m blk : Nat) (F : Array Value) (os : Array Obj) {b : Nat} (hb : b < w.heap.size) (hne : b ≠ blk) :
    (grow (putRow id (Sort.ahead w m) blk 0 F) os).heap[b]? = w.heap[b]? := by
  show ((w.heap.modify blk (onCells (putCells id 0 F))) ++ os)[b]? = _
  rw [Array.getElem?_append_left (by simpa using hb), Array.getElem?_modify, if_neg (fun e => hne e.symm)]
theorem put_take (F cur : Array Value) (h : F.size ≤ cur.size) : (putCells id 0 F cur).toList.take F.size = F.toList := by
  apply List.ext_getElem?
  intro t
  rw [List.getElem?_take]
  by_cases ht : t < F.size
  · rw [if_pos ht, Array.getElem?_toList, Array.getElem?_toList]
    simp [putCells, Array.getElem?_mapIdx, Array.getElem?_eq_getElem (show t < cur.size by omega), Array.getElem?_eq_getElem ht, ht]
  · rw [if_neg ht, List.getElem?_eq_none (by simpa using ht)]
theorem put_size (F cur : Array Value) : (putCells id 0 F cur).size = cur.size := by simp [putCells]
set_option maxHeartbeats 1000000 in
/-- slices.SortFunc, at pairs of places whose first ones are unlike. -/
theorem sort_calls (l l' : List (Int × Int)) (hb : ∀ p ∈ l, 0 ≤ p.1 ∧ p.1 < 1099511627776) (hn : (l.map (·.1)).Nodup) (hp : l'.Perm l) (hs : l'.Pairwise fun x y => x.1 < y.1) (hl : l.length ≤ 1000000000000) :
    CallS Try.prog 20 (42, 2, prs l) [.p (.one (.v (.raw (.func (.func 21) #[] #[]))))] (prs l') := by
  refine ⟨enters_of Try.func20 (by kernel_rfl) rfl, fun w vs g hg hlt ha hr => ?_⟩
  obtain ⟨s, vs1, rfl⟩ : ∃ s vs1, vs = s :: vs1 := by
    cases vs with
    | nil => have := ha.1; simp at this
    | cons s vs1 => exact ⟨s, vs1, rfl⟩
  obtain ⟨c, rfl⟩ : ∃ c, vs1 = [c] := by
    have := ha.1
    match vs1 with
    | [c] => exact ⟨c, rfl⟩
    | [] => simp at this
    | _ :: _ :: _ => simp at this
  have hc : c = .func (.func 21) #[] #[] := (raw_of (g := g) (show XR w g c (rawX _) from ha.tail.head)).1
  have hsv : s = g.hd 0 := ha.head
  subst hc
  obtain ⟨n, vs, he, hxl, ho, hall⟩ := hr
  dsimp only at he hxl ho hall
  have hln : n = l.length := by rw [prs_len] at hxl; omega
  have hv := prs_cells hall
  rw [cells2_to hb] at hv
  by_cases h0 : n = 0
  · have hl0 : l = [] := List.eq_nil_of_length_eq_zero (by omega)
    subst hl0
    have hl1 : l' = [] := hp.eq_nil
    subst hl1
    obtain ⟨p, cap, hhd⟩ : ∃ p cap, g.hd 0 = .slice p 0 cap := by
      rcases ho with ⟨h1, _⟩ | ⟨_, _, b, h1⟩
      · rcases h1.2 with ⟨h1, _⟩ | ⟨k, cap, cur, h1, _⟩
        · exact ⟨none, 0, h1⟩
        · rw [h0] at h1; exact ⟨_, cap, h1⟩
      · exact ⟨some b, 0, h1⟩
    rw [hsv, hhd]
    have hcon := AnyF.slices_SortFunc_none sortP p cap (.func (.func 21) #[] #[]) w
    change Calls Try.prog 20 _ _ _ at hcon
    refine hcon.mono ?_
    rintro e w' ⟨rfl, rfl⟩
    exact ⟨_, rfl, Fr.refl _ _, n, vs, he, hxl, ho, hall⟩
  · rcases ho with ⟨hown, htag⟩ | ⟨hz, _⟩
    case inr => exact absurd hz h0
    rcases hown.2 with ⟨_, hz⟩ | ⟨blk, cap, cur, hhd, _, hheap, hcap, hmax, hsize, htake⟩
    · exact absurd hz h0
    have hblk : blk < w.heap.size := by
      rcases Nat.lt_or_ge blk w.heap.size with h' | h'
      · exact h'
      · simp [Array.getElem?_eq_none h'] at hheap
    have htg : g.o blk = .row 0 := htag blk (by rw [hhd]; rfl)
    have hd : (l.map toP).toArray.size = n := by simp [hln]
    have hfl : ((flatK enc2 2 (l.map toP).toArray)).toList = vs := by rw [flat_eq, hv]
    have hH : HoldsK enc2 2 w blk 0 (l.map toP).toArray := by
      intro j hj
      have hjn : j < n * 2 := by rw [size_flatK, hd] at hj; exact hj
      have hjc : j < cur.size := by rw [hsize]; have := Nat.mul_le_mul_right 2 hcap; omega
      have e1 : cur[j]? = some (flatK enc2 2 (l.map toP).toArray)[j]! := by
        have h1 : vs[j]? = cur.toList[j]? := by rw [← htake, List.getElem?_take, if_pos hjn]
        rw [← hfl, Array.getElem?_toList, Array.getElem?_eq_getElem hj, Array.getElem?_toList] at h1
        rw [← h1, getElem!_pos _ j hj]
      refine ⟨?_, ?_⟩
      · simp only [World.cell?, Nat.zero_add, hheap]
        exact e1
      · simp [World.frozen?, hheap]
    rw [hsv, hhd, show n = (l.map toP).toArray.size from hd.symm]
    have hcon := AnyQ.slices_SortFunc sortP 2 Try.isAgg42 Try.sizeOf42 enc2 (fun _ => rfl) (fun x v hv => by simp [enc2] at hv; rcases hv with rfl | rfl <;> rfl) cf2 swo2 21 #[] blk 0 cap (l.map toP).toArray w eg21 (lays21 blk 0 _ w) hH hblk (by rw [hd]; omega)
    change Calls Try.prog 20 _ _ _ at hcon
    refine hcon.mono ?_
    rintro e w' ⟨rfl, d', m, os, hpm, hst, rfl⟩
    have hds : d'.size = n := by rw [hpm.1, hd]
    have hperm : d'.toList.Perm (l.map toP) := by
      have := hpm.2.2
      rw [hd, ← hds, Array.extract_size] at this
      have h2 : (l.map toP).toArray.extract 0 d'.size = (l.map toP).toArray := by rw [hds, ← hd, Array.extract_size]
      rw [h2] at this
      exact this
    have hmap : d'.toList.map ofP = l' := by
      have hback : (l.map toP).map ofP = l := by
        rw [List.map_map]
        conv => rhs; rw [← List.map_id l]
        exact List.map_congr_left fun p hpm => ofP_toP (hb p hpm)
      have hpp : (d'.toList.map ofP).Perm l' := by
        have := hperm.map ofP
        rw [hback] at this
        exact this.trans hp.symm
      have hnd : ((d'.toList.map ofP).map (·.1)).Nodup := ((hpp.trans hp).map (·.1)).nodup_iff.2 hn
      have hsorted : (d'.toList.map ofP).Pairwise fun x y => x.1 < y.1 := by
        rw [List.pairwise_iff_getElem]
        intro i j hi hj hij
        simp only [List.length_map, Array.length_toList] at hi hj
        have h1 := hst i j (Nat.zero_le _) hij (by rw [hd, ← hds]; exact hj)
        rw [lt2] at h1
        have h1 := of_decide_eq_false h1
        rw [getElem!_pos d' i hi, getElem!_pos d' j hj] at h1
        have h2 : ((d'.toList.map ofP).map (·.1))[i]'(by simpa using hi) ≠ ((d'.toList.map ofP).map (·.1))[j]'(by simpa using hj) := List.pairwise_iff_getElem.1 hnd i j _ _ hij
        simp only [List.getElem_map, Array.getElem_toList] at h2 ⊢
        unfold ofP at h2 ⊢
        simp only at h2 ⊢
        omega
      exact rise_one hpp hsorted hs
    have hF : (flatK enc2 2 d').size = n * 2 := by rw [size_flatK, hds]
    refine ⟨_, rfl, ⟨rfl, rfl, rfl, ?_, fun b hbl hbo => ⟨?_, rfl⟩, fun b hbl ⟨k, hk⟩ => ?_⟩, n, cells2 d'.toList, he, ?_, .inl ⟨⟨?_, .inr ⟨blk, cap, putCells id 0 (flatK enc2 2 d') cur, hhd, Nat.zero_le _, ?_, hcap, hmax, ?_, ?_⟩⟩, htag⟩, ?_⟩
    · show w.heap.size ≤ ((w.heap.modify blk _) ++ os).size
      simp
    · refine put_other w m blk _ os hbl fun e => ?_
      subst e
      rcases hbo with q | q <;> rw [htg] at q <;> cases q
    · rcases hg b with q | q | q <;> rw [hk] at q <;> cases q
    · rw [prs_len, ← hmap]; simp; omega
    · rw [cells2_len]; simp [hds]
    · exact put_at w m blk _ os hheap
    · rw [put_size, hsize]
    · rw [← hF, put_take _ _ (by rw [hF, hsize]; exact Nat.mul_le_mul_right 2 hcap), flat_eq]
    · rw [← hmap]; exact prs_all2 _ _ _
end Go.Proofs.YtncabdcaamkhiaaG
/- G18: a function whose body ends in a scope with a label. -/
namespace Go.Proofs.YtncabdcaamkhiaaG
open Go Go.RowKit
set_option linter.unusedVariables false
set_option linter.unusedSimpArgs false
/-- A function whose body ends in a scope with one label. -/
theorem fn_okS2 {P : Program} {T : Tab} {O : Orc} (hT : Tok P T) (hO : OrcOk P O) (hm : P.follows .mixedOrders = true) {f : Nat} {fn : Func} {x c rest : Code} {l : Nat} (hf : P.funcs[f]? = some fn) (hb : fn.body = some (.seq x (.scope c))) (hl : findLabel c l = some rest) (hcb : callableB fn = true) (vars : Nat → List Nat) (nt : Nat) (hnt : fn.ntmps = nt)
    {args : List X} {res : X} {rows : Rows} {fr : Bool} (hn : args.length ≤ nt) (hres : res.all TV.res = true) (hfr : fr = true → res.all TV.rawR = true ∧ ∀ r ∈ rows, ∀ x ∈ r.2.2, x.isRaw = true)
    (h : vCode T O nt vars x (argsG 0 args) (GEx.seq (fun G1 => vCode T O nt vars c G1 (GEx.jmp l (fun G' => vCode T O nt vars rest G' (GEx.nog (Kf T fn.results.toList res rows))) (Kf T fn.results.toList res rows))) (GEx.nog (Kf T fn.results.toList res rows)))) : CallOk P f args res rows fr := by
  subst hnt
  refine ⟨callable_of hf hcb, hres, hfr, fun w vs g hg hlt hall => ?_⟩
  refine callsIn_wide.1 (callsIn_of_wp_marks (F := Fence.wide) (n := 0) hf hb trivial ?_)
  have hvl : vs.length = args.length := hall.1
  have r0 : Rel (look (argsG 0 args)) fn.ntmps { tmps := vs.toArray ++ Array.replicate (fn.ntmps - vs.toArray.size) undef, defers := [] } w g := by
    refine ⟨by simp; omega, rfl, hlt, fun n => ?_⟩
    cases n with
    | t i =>
      rcases look_argsG_t (args := args) (k := 0) (i := i) with h1 | ⟨x, h1⟩
      · rw [h1]; trivial
      · rw [h1]
        obtain ⟨v, e1, _, e3⟩ := look_argsG hall x h1
        have hi : i < vs.length := (List.getElem?_eq_some_iff.1 e1).1
        have : (vs.toArray ++ Array.replicate (fn.ntmps - vs.toArray.size) undef).getD i undef = v := by
          simp only [Nat.sub_zero] at e1
          simp [Array.getD_eq_getD_getElem?, Array.getElem?_append, hi]
          rw [List.getElem?_eq_getElem hi] at e1
          exact Option.some.inj e1
        show XR w g _ x
        rw [this]
        exact e3
    | row k => rw [look_argsG_other (by simp)]; trivial
    | box k => rw [look_argsG_other (by simp)]; trivial
  have env0 : Env w.heap.size none [] w g := ⟨Nat.le_refl _, fun l hl => by (cases hl), fun d hd => absurd hd (by simp), List.nodup_nil⟩
  have hend : ∀ (e : GEx) (G' : List (Nm × C)) (a' : Act) (w' : World) (g' : Gh) (ds' : List Deferred), (∀ l, e ≠ .goto l) → Kf T fn.results.toList res rows e G' → Rel (look G') fn.ntmps a' w' g' → Fr w w' g.o g'.o → Env w.heap.size none ds' w' g' →
      bodyPostM Fence.wide 0 P fn (fun e w' => ∃ v g', e = .returned v ∧ Fr w w' g.o g'.o ∧ (∀ b, g'.o b ≠ .other → b < w'.heap.size) ∧ XR w' g' v res ∧ ∀ k ty e xs, rows[k]? = some (ty, e, xs) → RowR w' g' k ty e xs) e.ex (shA ds' a') w' := fun e G' a' w' g' ds' hne hq r' f' env' => by
    obtain ⟨he, hv⟩ := hq
    have key := leaves_marks (P := P) (fn := fn) (R := fun e w' => ∃ v g', e = .returned v ∧ Fr w w' g.o g'.o ∧ (∀ b, g'.o b ≠ .other → b < w'.heap.size) ∧ XR w' g' v res ∧ ∀ k ty e xs, rows[k]? = some (ty, e, xs) → RowR w' g' k ty e xs) ds' r' f' env' fun w' g' r' f' => by
      unfold vRes at hv
      split at hv
      · rename_i x hx
        obtain ⟨hm1, hm2, hv⟩ := hv
        split at hv
        · rename_i rows' hrows
          obtain ⟨rfl, rfl⟩ := hv
          obtain ⟨v, h1, h2⟩ := resX_run hT r' hx
          refine ⟨v, h1, v, g'.ren (resM x), rfl, f'.trans (Fr.ren _ _ _), (r'.ren hm1).tags, ren_xr hm1 h2, fun k ty e xs hk => ?_⟩
          obtain ⟨hh, hmem, hrow⟩ := rowsAt_get hrows hm2 k ty e xs hk
          rw [Nat.zero_add] at hmem
          exact ren_rowr hm1 (fwd_mem hm1 hmem) (r'.row hrow)
        · exact hv.elim
      · exact hv.elim
    rcases he with rfl | rfl
    · exact key
    · exact key
  refine wpIn_seq (vCode_ok hT hO hm x h (ro := none) (ds := []) r0 (Fr.refl _ _) env0 fun e G' a' w' g' ds' hq r' f' env' _ => ?_)
  cases e with
  | normal => exact scope_wp hT hO hm hl hq r' f' env' hend
  | goto l' => exact hq.elim
  | exit id => exact hend (.exit id) G' a' w' g' ds' (by simp) hq r' f' env'
  | ret => exact hend .ret G' a' w' g' ds' (by simp) hq r' f' env'
  | panic v => exact hend (.panic v) G' a' w' g' ds' (by simp) hq r' f' env'
end Go.Proofs.YtncabdcaamkhiaaG
