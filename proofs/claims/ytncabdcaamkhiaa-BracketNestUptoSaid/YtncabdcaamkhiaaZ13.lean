/- YtncabdcaamkhiaaZ13: a part of the proof, joined of its texts. -/
import Derived.Test.YtncabdcaamkhiaaZ12
namespace Go.Proofs.YtncabdcaamkhiaaG
open Go Go.RowKit Go.Proofs
set_option linter.unusedSimpArgs false
set_option linter.unusedVariables false
theorem cut_nts (l : List Int) (a b : Int) : cutSV 1 (nts l) a b = nts ((l.drop a.toNat).take (b - a).toNat) := by simp [cutSV, nts, List.map_drop, List.map_take]
theorem sd_rng (x : Int) : sdF x = 0 ∨ sdF x = 1 ∨ sdF x = 2 := by unfold sdF; (repeat' split) <;> simp
def formedF (t : List Int) : Bool := decide (∀ i, i < t.length → mayF (t.getD i 0) = true)
theorem may_iff (x : Int) : mayF x = true ↔ sdF x ≠ 0 ∨ (11 ≤ x ∧ x ≤ 14) ∨ (20 ≤ x ∧ x ≤ 23) := by unfold mayF; simp only [decide_eq_true_eq]
set_option maxRecDepth 10000 in
set_option maxHeartbeats 4000000 in
theorem formed_ok (t : List Int) (hl : t.length ≤ 2000000) : CallOk Try.prog 24 [sl (nts t)] (bo (formedF t)) [] true := by
  refine fn_ok' T_ok (orc_ok _) mixed Try.func24 rfl (by kernel_rfl) (lv [[0], [5, 6, 7], [5, 6, 7, 8], [4, 5, 6, 7], [5, 6, 7, 29], [2], [5, 6, 7], [2]]) 31 rfl (by simp) rfl (by simp [X.all, PX.all, TV.rawR, SV.isRaw]) ?_
  simp only [argsG, Nat.zero_add, Nat.reduceAdd]
  repeat' first
    | ((first
        | ((with_reducible refine vR_cons (by decide) ?_); generalize hk : KtR _ _ _ _ _ _ _ _ _ _ = k)
        | ((first
        | with_reducible refine vOps_cons' ?_) <;> generalize hk : Kt _ _ _ _ _ _ _ _ _ = k)) <;> (simp only [Try.f24, lv, E1, E2, E5, ET, T, orc_mv, noO_mv, mvB, orc_bx, noO_bx, bxB, orc_sx, noO_sx, sxB, fwd, fwds, inv, mOk, Int.toNat_natCast, Nat.div_one, Nat.mul_one, Int.reduceToNat, SB, List.not_mem_nil, ↓reduceIte, ne_eq, reduceCtorEq, Nat.reduceLT, Nat.reduceEqDiff, Nat.reduceAdd, Nat.reduceMul, Nat.reduceLeDiff, Nat.reduceDiv, Nat.reduceMod, Nat.reduceSub, Nat.reduceBEq, List.length_map, rn_len, nts_len, cut_nts, List.length_take, List.length_drop]; (try simp (disch := omega) only [wrap_in, Int.toNat_natCast, tv_rn, tv_nts]); subst hk))
    | with_reducible first | refine Kt_p ?_ | refine Kt_i (by kernel_rfl) ?_ | refine Kr_f (by kernel_rfl) ?_
    | (with_reducible refine Kr_t ?_; simp only [List.length_append, List.length_cons, List.length_nil, Nat.reduceAdd, Nat.reduceSub, List.drop_succ_cons, List.drop_zero])
    | with_reducible first | refine vR_nil ?_ | refine KtR_i (by kernel_rfl) ?_ | refine KrR_i (by kernel_rfl) ?_ | refine vR_skip (by decide) ?_
    | ((with_reducible refine vB_i ?_ ?_) <;> intro _ <;> (first | (exfalso; omega) | (exact absurd trivial ‹¬True›) | (try dsimp only [])))
    | ((with_reducible refine vOps_nil' ?_); refine Kr_i (by kernel_rfl) ?_; generalize hk : plain _ _ = G; simp only [lv, E3, E2, E5, rawX, deadX, SB, List.not_mem_nil, ↓reduceIte, ne_eq, reduceCtorEq, Nat.reduceLT, Nat.reduceEqDiff, Nat.reduceAdd, Nat.reduceMul, Nat.reduceLeDiff, Nat.reduceDiv, Nat.reduceMod, Nat.reduceSub, Nat.reduceBEq, List.length_map, rn_len, nts_len, cut_nts, List.length_take, List.length_drop] at hk; subst hk)
    | with_reducible refine vSeq_i ?_
    | with_reducible first | refine vRegion_i (by kernel_rfl) ?_ | refine Kv_i ?_
    | ((with_reducible apply vStrK_i); (focus (rfl; done)))
    | ((with_reducible refine imp_i ?_); intro _)
    | with_reducible first | refine Ks_n ?_ | refine Ks_r ?_ | refine Ks_e ?_ | refine Kl_e ?_ | refine Kx_n ?_ | refine Kl_r ?_ | refine vRet_i ?_ | refine vSkip_i ?_ | refine vExit_i ?_ | refine vBlock_i ?_ | refine Ks_p ?_ | refine Kl_p ?_ | refine blk_p ?_ | exact Kb_p | refine vGoto_i ?_ | refine vLabel_i ?_ | refine Ks_g ?_ | refine Kl_g ?_ | refine blk_g ?_ | refine jmp_g ?_ | refine jmp_n ?_ | refine jmp_r ?_ | refine nog_n ?_ | refine nog_r ?_ | refine blk_n ?_ | refine blk_r ?_ | refine blk_e ?_ | refine blk_o (by decide) ?_ | refine cp_t ?_ | refine cp_f ?_
    | ((with_reducible apply vCond_x); (focus (simp only [lv, E1, E2, E5, ET, T, orc_mv, noO_mv, mvB, orc_bx, noO_bx, bxB, orc_sx, noO_sx, sxB, fwd, fwds, inv, mOk, Int.toNat_natCast, Nat.div_one, Nat.mul_one, Int.reduceToNat, SB, List.not_mem_nil, ↓reduceIte, ne_eq, reduceCtorEq, Nat.reduceLT, Nat.reduceEqDiff, Nat.reduceAdd, Nat.reduceMul, Nat.reduceLeDiff, Nat.reduceDiv, Nat.reduceMod, Nat.reduceSub, Nat.reduceBEq, List.length_map, rn_len, nts_len, cut_nts, List.length_take, List.length_drop]; with_reducible first | exact Eq.refl (bo true) | exact Eq.refl (bo false))))
    | ((with_reducible refine And.intro ?_ ?_); (focus (try omega)))
  refine vLoop_s (fun k : Nat => [(.t 5, .t (sl (nts t))), (.t 6, .t (i64 t.length)), (.t 7, .t (i64 k))]) (fun k => k ≤ t.length ∧ ∀ i, i < k → mayF (t.getD i 0) = true) (fun k => t.length - k) 0 ⟨by omega, by omega⟩ rfl ?_
  rintro k ⟨hk, hlt⟩
  have hm := may_iff (t.getD k 0)
  repeat' first
    | ((first
        | ((with_reducible refine vR_cons (by decide) ?_); generalize hk : KtR _ _ _ _ _ _ _ _ _ _ = k)
        | ((first
        | with_reducible refine vOps_cons' ?_
        | ((with_reducible apply orc_i); (focus (exact side_ok _; done)))) <;> generalize hk : Kt _ _ _ _ _ _ _ _ _ = k)) <;> (simp only [Try.f24, lv, E1, E2, E5, ET, T, orc_mv, noO_mv, mvB, orc_bx, noO_bx, bxB, orc_sx, noO_sx, sxB, fwd, fwds, inv, mOk, Int.toNat_natCast, Nat.div_one, Nat.mul_one, Int.reduceToNat, SB, List.not_mem_nil, ↓reduceIte, ne_eq, reduceCtorEq, Nat.reduceLT, Nat.reduceEqDiff, Nat.reduceAdd, Nat.reduceMul, Nat.reduceLeDiff, Nat.reduceDiv, Nat.reduceMod, Nat.reduceSub, Nat.reduceBEq, List.length_map, rn_len, nts_len, cut_nts, List.length_take, List.length_drop]; (try simp (disch := omega) only [wrap_in, Int.toNat_natCast, tv_rn, tv_nts]); subst hk))
    | with_reducible first | refine Kt_p ?_ | refine Kt_i (by kernel_rfl) ?_ | refine Kr_f (by kernel_rfl) ?_
    | (with_reducible refine Kr_t ?_; simp only [List.length_append, List.length_cons, List.length_nil, Nat.reduceAdd, Nat.reduceSub, List.drop_succ_cons, List.drop_zero])
    | with_reducible first | refine vR_nil ?_ | refine KtR_i (by kernel_rfl) ?_ | refine KrR_i (by kernel_rfl) ?_ | refine vR_skip (by decide) ?_
    | ((with_reducible refine vB_i ?_ ?_) <;> intro _ <;> (first | (exfalso; omega) | (exact absurd trivial ‹¬True›) | (try dsimp only [])))
    | ((with_reducible refine vOps_nil' ?_); refine Kr_i (by kernel_rfl) ?_; generalize hk : plain _ _ = G; simp only [lv, E3, E2, E5, rawX, deadX, SB, List.not_mem_nil, ↓reduceIte, ne_eq, reduceCtorEq, Nat.reduceLT, Nat.reduceEqDiff, Nat.reduceAdd, Nat.reduceMul, Nat.reduceLeDiff, Nat.reduceDiv, Nat.reduceMod, Nat.reduceSub, Nat.reduceBEq, List.length_map, rn_len, nts_len, cut_nts, List.length_take, List.length_drop] at hk; subst hk)
    | with_reducible refine vSeq_i ?_
    | with_reducible first | refine vRegion_i (by kernel_rfl) ?_ | refine Kv_i ?_
    | ((with_reducible apply vStrK_i); (focus (rfl; done)))
    | ((with_reducible refine imp_i ?_); intro _)
    | with_reducible first | refine Ks_n ?_ | refine Ks_r ?_ | refine Ks_e ?_ | refine Kl_e ?_ | refine Kx_n ?_ | refine Kl_r ?_ | refine vRet_i ?_ | refine vSkip_i ?_ | refine vExit_i ?_ | refine vBlock_i ?_ | refine Ks_p ?_ | refine Kl_p ?_ | refine blk_p ?_ | exact Kb_p | refine vGoto_i ?_ | refine vLabel_i ?_ | refine Ks_g ?_ | refine Kl_g ?_ | refine blk_g ?_ | refine jmp_g ?_ | refine jmp_n ?_ | refine jmp_r ?_ | refine nog_n ?_ | refine nog_r ?_ | refine blk_n ?_ | refine blk_r ?_ | refine blk_e ?_ | refine blk_o (by decide) ?_ | refine cp_t ?_ | refine cp_f ?_
    | ((with_reducible apply vCond_x); (focus (simp only [lv, E1, E2, E5, ET, T, orc_mv, noO_mv, mvB, orc_bx, noO_bx, bxB, orc_sx, noO_sx, sxB, fwd, fwds, inv, mOk, Int.toNat_natCast, Nat.div_one, Nat.mul_one, Int.reduceToNat, SB, List.not_mem_nil, ↓reduceIte, ne_eq, reduceCtorEq, Nat.reduceLT, Nat.reduceEqDiff, Nat.reduceAdd, Nat.reduceMul, Nat.reduceLeDiff, Nat.reduceDiv, Nat.reduceMod, Nat.reduceSub, Nat.reduceBEq, List.length_map, rn_len, nts_len, cut_nts, List.length_take, List.length_drop]; with_reducible first | exact Eq.refl (bo true) | exact Eq.refl (bo false))))
    | ((with_reducible refine And.intro ?_ ?_); (focus (try omega)))
  all_goals first
    | (have hx : mayF (t.getD k 0) = true := hm.2 (by omega)
       exact Kl_n ⟨k + 1, ⟨by omega, fun i hi => by rcases Nat.lt_or_eq_of_le (Nat.le_of_lt_succ hi) with q | q; exact hlt i q; exact q ▸ hx⟩, by omega, by simp only [Int.natCast_add, Int.natCast_one]⟩)
    | (have hx : ¬ mayF (t.getD k 0) = true := fun q => by have := hm.1 q; omega
       refine Kf_r ?_
       simp only [Try.f24, E4, E3, E2, E5, rawX, deadX, ET, T, SB, List.not_mem_nil, ↓reduceIte, ne_eq, reduceCtorEq, Nat.reduceLT, Nat.reduceEqDiff, Nat.reduceAdd, Nat.reduceMul, Nat.reduceLeDiff, Nat.reduceDiv, Nat.reduceMod, Nat.reduceSub, Nat.reduceBEq, List.length_map, rn_len, nts_len, cut_nts, List.length_take, List.length_drop, X.p.injEq, X.tup.injEq, PX.one.injEq, PX.agg.injEq, TV.v.injEq, TV.sr.injEq, SV.raw.injEq, SV.sl.injEq, Value.bool.injEq, Value.int.injEq, List.cons.injEq, Prod.mk.injEq, true_and, and_true, and_self]
       symm; unfold formedF; simp only [decide_eq_false_iff_not]
       exact fun q => hx (q k (by omega)))
    | (refine Kf_r ?_
       simp only [Try.f24, E4, E3, E2, E5, rawX, deadX, ET, T, SB, List.not_mem_nil, ↓reduceIte, ne_eq, reduceCtorEq, Nat.reduceLT, Nat.reduceEqDiff, Nat.reduceAdd, Nat.reduceMul, Nat.reduceLeDiff, Nat.reduceDiv, Nat.reduceMod, Nat.reduceSub, Nat.reduceBEq, List.length_map, rn_len, nts_len, cut_nts, List.length_take, List.length_drop, X.p.injEq, X.tup.injEq, PX.one.injEq, PX.agg.injEq, TV.v.injEq, TV.sr.injEq, SV.raw.injEq, SV.sl.injEq, Value.bool.injEq, Value.int.injEq, List.cons.injEq, Prod.mk.injEq, true_and, and_true, and_self]
       symm; unfold formedF; simp only [decide_eq_true_eq]
       exact fun i hi => hlt i (by omega))
def hasF (t : List Int) (e : Int) : Bool := decide (∃ i, i < t.length ∧ sdF (t.getD i 0) = e)
/-- The side of the last type ahead that has one. -/
def ahd (t : List Int) (sos : Int) : Nat → Int
  | 0 => sos
  | k + 1 => if sdF (t.getD k 0) ≠ 0 then sdF (t.getD k 0) else ahd t sos k
/-- What lies inside a pair. -/
def insF (t : List Int) (a b : Nat) : List Int := (t.drop ((a : Int) + 1).toNat).take ((b : Int) - ((a : Int) + 1)).toNat
theorem insF_len {t : List Int} {a b : Nat} (h1 : a < b) (h2 : b ≤ t.length) : (insF t a b).length = b - a - 1 := by
  unfold insF; rw [List.length_take, List.length_drop]; omega
/-- What a pair gets; 0: nothing. -/
def dirF (t : List Int) (a b : Nat) (e sos : Int) : Int := if hasF (insF t a b) e = true then e else if hasF (insF t a b) (3 - e) = true then ahd t sos a else 0
abbrev pr2 (a b : Int) : X := .p (.agg [.v (.raw (.int .i64 a)), .v (.raw (.int .i64 b))])
structure DirI (I : List Int) (e : Int) (z : Nat × Bool) : Prop where
  le : z.1 ≤ I.length
  no : ∀ i, i < z.1 → sdF (I.getD i 0) ≠ e
  yes : z.2 = true → ∃ i, i < z.1 ∧ sdF (I.getD i 0) = 3 - e
  ev : z.2 = false → ∀ i, i < z.1 → sdF (I.getD i 0) = 0
theorem DirI.s0 {I : List Int} {e : Int} {k : Nat} {o : Bool} (h : DirI I e (k, o)) (hk : k < I.length) (h0 : sdF (I.getD k 0) = 0) (he : e = 1 ∨ e = 2) : DirI I e (k + 1, o) := by
  obtain ⟨_, h2, h3, h4⟩ := h
  refine ⟨hk, fun i hi => ?_, fun q => ?_, fun q i hi => ?_⟩
  · rcases Nat.lt_or_eq_of_le (Nat.le_of_lt_succ hi) with q | q
    · exact h2 i q
    · rw [q, h0]; omega
  · obtain ⟨i, hi, hx⟩ := h3 q; exact ⟨i, Nat.lt_succ_of_lt hi, hx⟩
  · rcases Nat.lt_or_eq_of_le (Nat.le_of_lt_succ hi) with q' | q'
    · exact h4 q i q'
    · rw [q', h0]
theorem DirI.s1 {I : List Int} {e : Int} {k : Nat} {o : Bool} (h : DirI I e (k, o)) (hk : k < I.length) (h0 : ¬ sdF (I.getD k 0) = 0) (h1 : ¬ sdF (I.getD k 0) = e) (he : e = 1 ∨ e = 2) : DirI I e (k + 1, true) := by
  obtain ⟨_, h2, _, _⟩ := h
  have := sd_rng (I.getD k 0)
  refine ⟨hk, fun i hi => ?_, fun _ => ⟨k, Nat.lt_succ_self k, by omega⟩, fun q => by cases q⟩
  rcases Nat.lt_or_eq_of_le (Nat.le_of_lt_succ hi) with q | q
  · exact h2 i q
  · rw [q]; exact h1
theorem DirI.hit {I : List Int} {e : Int} {k : Nat} (hk : k < I.length) (h : sdF (I.getD k 0) = e) : hasF I e = true := by
  unfold hasF; exact decide_eq_true ⟨k, hk, h⟩
theorem DirI.e0 {I : List Int} {e : Int} {k : Nat} {o : Bool} (h : DirI I e (k, o)) (hk : ¬ k < I.length) : hasF I e = false := by
  unfold hasF; exact decide_eq_false fun ⟨i, hi, q⟩ => h.no i (by show i < k; omega) q
theorem DirI.e1 {I : List Int} {e : Int} {k : Nat} (h : DirI I e (k, false)) (hk : ¬ k < I.length) (he : e = 1 ∨ e = 2) : hasF I (3 - e) = false := by
  unfold hasF; exact decide_eq_false fun ⟨i, hi, q⟩ => by have := h.ev rfl i (by show i < k; omega); omega
theorem DirI.e2 {I : List Int} {e : Int} {k : Nat} (h : DirI I e (k, true)) : hasF I (3 - e) = true := by
  obtain ⟨i, hi, q⟩ := h.yes rfl
  have := h.le
  unfold hasF; exact decide_eq_true ⟨i, by simp only [] at hi this; omega, q⟩
set_option maxRecDepth 10000 in
set_option maxHeartbeats 4000000 in
theorem direction_ok (t : List Int) (a b : Nat) (e sos : Int) (h1 : a < b) (h2 : b ≤ t.length) (hl : t.length ≤ 2000000) (he : e = 1 ∨ e = 2) : CallOk Try.prog 25 [sl (nts t), pr2 a b, i64 e, i64 sos] (i64 (dirF t a b e sos)) [] true := by
  have hI := insF_len h1 h2
  obtain ⟨I, hIe⟩ : ∃ I, I = insF t a b := ⟨_, rfl⟩
  have hIx : cutSV 1 (nts t) ((a : Int) + 1) (b : Int) = nts I := by rw [cut_nts, hIe]; rfl
  refine fn_ok' T_ok (orc_ok _) mixed Try.func25 rfl (by kernel_rfl) (lv [[0, 2, 3, 5], [0, 2, 3, 5, 9], [0, 2, 3, 5, 9, 21, 22, 23], [0, 2, 3, 5, 9, 21, 22, 23, 24], [0, 2, 3, 5, 9, 11, 21, 22, 23], [0, 2, 3, 5, 9, 21, 22, 23, 28], [0, 2, 3, 5, 9, 21, 22, 23], [0, 2, 3, 5, 9, 21, 22, 23, 28, 29], [0, 2, 3, 5, 21, 22, 23, 31], [8], [0, 2, 3, 5, 9, 21, 22, 23], [0, 3, 5, 37], [8], [0, 5, 12], [0, 12, 13], [0, 12, 13, 43], [0, 12, 13], [0, 12, 13, 14], [0, 12, 13, 14, 52], [12], [8]]) 55 rfl (by simp) rfl (by simp [X.all, PX.all, TV.rawR, SV.isRaw]) ?_
  simp only [argsG, Nat.zero_add, Nat.reduceAdd]
  repeat' first
    | ((first
        | ((with_reducible refine vR_cons (by decide) ?_); generalize hk : KtR _ _ _ _ _ _ _ _ _ _ = k)
        | ((first
        | with_reducible refine vOps_cons' ?_) <;> generalize hk : Kt _ _ _ _ _ _ _ _ _ = k)) <;> (simp only [Try.f25, lv, E1, E2, E5, ET, T, orc_mv, noO_mv, mvB, orc_bx, noO_bx, bxB, orc_sx, noO_sx, sxB, fwd, fwds, inv, mOk, Int.toNat_natCast, Nat.div_one, Nat.mul_one, Int.reduceToNat, SB, List.not_mem_nil, ↓reduceIte, ne_eq, reduceCtorEq, Nat.reduceLT, Nat.reduceEqDiff, Nat.reduceAdd, Nat.reduceMul, Nat.reduceLeDiff, Nat.reduceDiv, Nat.reduceMod, Nat.reduceSub, Nat.reduceBEq, List.length_map, rn_len, nts_len, cut_nts, List.length_take, List.length_drop]; (try simp (disch := omega) only [wrap_in, Int.toNat_natCast, tv_rn, tv_nts]); subst hk))
    | with_reducible first | refine Kt_p ?_ | refine Kt_i (by kernel_rfl) ?_ | refine Kr_f (by kernel_rfl) ?_
    | (with_reducible refine Kr_t ?_; simp only [List.length_append, List.length_cons, List.length_nil, Nat.reduceAdd, Nat.reduceSub, List.drop_succ_cons, List.drop_zero])
    | with_reducible first | refine vR_nil ?_ | refine KtR_i (by kernel_rfl) ?_ | refine KrR_i (by kernel_rfl) ?_ | refine vR_skip (by decide) ?_
    | ((with_reducible refine vB_i ?_ ?_) <;> intro _ <;> (first | (exfalso; omega) | (exact absurd trivial ‹¬True›) | (try dsimp only [])))
    | ((with_reducible refine vOps_nil' ?_); refine Kr_i (by kernel_rfl) ?_; generalize hk : plain _ _ = G; simp only [lv, E3, E2, E5, rawX, deadX, SB, List.not_mem_nil, ↓reduceIte, ne_eq, reduceCtorEq, Nat.reduceLT, Nat.reduceEqDiff, Nat.reduceAdd, Nat.reduceMul, Nat.reduceLeDiff, Nat.reduceDiv, Nat.reduceMod, Nat.reduceSub, Nat.reduceBEq, List.length_map, rn_len, nts_len, cut_nts, List.length_take, List.length_drop] at hk; subst hk)
    | with_reducible refine vSeq_i ?_
    | with_reducible first | refine vRegion_i (by kernel_rfl) ?_ | refine Kv_i ?_
    | ((with_reducible apply vStrK_i); (focus (rfl; done)))
    | ((with_reducible refine imp_i ?_); intro _)
    | with_reducible first | refine Ks_n ?_ | refine Ks_r ?_ | refine Ks_e ?_ | refine Kl_e ?_ | refine Kx_n ?_ | refine Kl_r ?_ | refine vRet_i ?_ | refine vSkip_i ?_ | refine vExit_i ?_ | refine vBlock_i ?_ | refine Ks_p ?_ | refine Kl_p ?_ | refine blk_p ?_ | exact Kb_p | refine vGoto_i ?_ | refine vLabel_i ?_ | refine Ks_g ?_ | refine Kl_g ?_ | refine blk_g ?_ | refine jmp_g ?_ | refine jmp_n ?_ | refine jmp_r ?_ | refine nog_n ?_ | refine nog_r ?_ | refine blk_n ?_ | refine blk_r ?_ | refine blk_e ?_ | refine blk_o (by decide) ?_ | refine cp_t ?_ | refine cp_f ?_
    | ((with_reducible apply vCond_x); (focus (simp only [lv, E1, E2, E5, ET, T, orc_mv, noO_mv, mvB, orc_bx, noO_bx, bxB, orc_sx, noO_sx, sxB, fwd, fwds, inv, mOk, Int.toNat_natCast, Nat.div_one, Nat.mul_one, Int.reduceToNat, SB, List.not_mem_nil, ↓reduceIte, ne_eq, reduceCtorEq, Nat.reduceLT, Nat.reduceEqDiff, Nat.reduceAdd, Nat.reduceMul, Nat.reduceLeDiff, Nat.reduceDiv, Nat.reduceMod, Nat.reduceSub, Nat.reduceBEq, List.length_map, rn_len, nts_len, cut_nts, List.length_take, List.length_drop]; with_reducible first | exact Eq.refl (bo true) | exact Eq.refl (bo false))))
    | ((with_reducible refine And.intro ?_ ?_); (focus (try omega)))
  all_goals try (exfalso; omega)
  have hf : List.take ((b : Int) - ((a : Int) + 1)).toNat (List.drop ((a : Int) + 1).toNat t) = I := hIe.symm
  have hm : min ((b : Int) - ((a : Int) + 1)).toNat (t.length - ((a : Int) + 1).toNat) = I.length := by rw [hIe, hI]; omega
  have hIl : I.length ≤ 2000000 := by rw [hIe, hI]; omega
  have hD : dirF t a b e sos = if hasF I e = true then e else if hasF I (3 - e) = true then ahd t sos a else 0 := by rw [hIe]; rfl
  rw [hf, hm, hD]
  refine vLoop_s (fun z : Nat × Bool => [(.t 0, .t (sl (nts t))), (.t 2, .t (i64 e)), (.t 3, .t (i64 sos)), (.t 5, .t (.p (.one (.pr 0 0)))), (.t 9, .t (bo z.2)), (.t 21, .t (sl (nts I))), (.t 22, .t (i64 I.length)), (.t 23, .t (i64 z.1)), (.box 0, .box 42 [.v (.raw (.int .i64 a)), .v (.raw (.int .i64 b))])]) (DirI I e) (fun z => I.length - z.1) (0, false) ⟨Nat.zero_le _, fun i h => absurd h (Nat.not_lt_zero _), fun h => (by cases h), fun _ i h => absurd h (Nat.not_lt_zero _)⟩ rfl ?_
  rintro ⟨k, o⟩ hJ
  have hk : k ≤ I.length := hJ.le
  have hs := sd_rng (I.getD k 0)
  cases o
  · skip
    repeat' first
      | ((first
          | ((with_reducible refine vR_cons (by decide) ?_); generalize hk : KtR _ _ _ _ _ _ _ _ _ _ = k)
          | ((first
          | with_reducible refine vOps_cons' ?_
          | ((with_reducible apply orc_i); (focus (exact side_ok _; done)))) <;> generalize hk : Kt _ _ _ _ _ _ _ _ _ = k)) <;> (simp only [Try.f25, lv, E1, E2, E5, ET, T, orc_mv, noO_mv, mvB, orc_bx, noO_bx, bxB, orc_sx, noO_sx, sxB, fwd, fwds, inv, mOk, Int.toNat_natCast, Nat.div_one, Nat.mul_one, Int.reduceToNat, SB, List.not_mem_nil, ↓reduceIte, ne_eq, reduceCtorEq, Nat.reduceLT, Nat.reduceEqDiff, Nat.reduceAdd, Nat.reduceMul, Nat.reduceLeDiff, Nat.reduceDiv, Nat.reduceMod, Nat.reduceSub, Nat.reduceBEq, List.length_map, rn_len, nts_len, cut_nts, List.length_take, List.length_drop]; (try simp (disch := omega) only [wrap_in, Int.toNat_natCast, tv_rn, tv_nts]); subst hk))
      | with_reducible first | refine Kt_p ?_ | refine Kt_i (by kernel_rfl) ?_ | refine Kr_f (by kernel_rfl) ?_
      | (with_reducible refine Kr_t ?_; simp only [List.length_append, List.length_cons, List.length_nil, Nat.reduceAdd, Nat.reduceSub, List.drop_succ_cons, List.drop_zero])
      | with_reducible first | refine vR_nil ?_ | refine KtR_i (by kernel_rfl) ?_ | refine KrR_i (by kernel_rfl) ?_ | refine vR_skip (by decide) ?_
      | ((with_reducible refine vB_i ?_ ?_) <;> intro _ <;> (first | (exfalso; omega) | (exact absurd trivial ‹¬True›) | (try dsimp only [])))
      | ((with_reducible refine vOps_nil' ?_); refine Kr_i (by kernel_rfl) ?_; generalize hk : plain _ _ = G; simp only [lv, E3, E2, E5, rawX, deadX, SB, List.not_mem_nil, ↓reduceIte, ne_eq, reduceCtorEq, Nat.reduceLT, Nat.reduceEqDiff, Nat.reduceAdd, Nat.reduceMul, Nat.reduceLeDiff, Nat.reduceDiv, Nat.reduceMod, Nat.reduceSub, Nat.reduceBEq, List.length_map, rn_len, nts_len, cut_nts, List.length_take, List.length_drop] at hk; subst hk)
      | with_reducible refine vSeq_i ?_
      | with_reducible first | refine vRegion_i (by kernel_rfl) ?_ | refine Kv_i ?_
      | ((with_reducible apply vStrK_i); (focus (rfl; done)))
      | ((with_reducible refine imp_i ?_); intro _)
      | with_reducible first | refine Ks_n ?_ | refine Ks_r ?_ | refine Ks_e ?_ | refine Kl_e ?_ | refine Kx_n ?_ | refine Kl_r ?_ | refine vRet_i ?_ | refine vSkip_i ?_ | refine vExit_i ?_ | refine vBlock_i ?_ | refine Ks_p ?_ | refine Kl_p ?_ | refine blk_p ?_ | exact Kb_p | refine vGoto_i ?_ | refine vLabel_i ?_ | refine Ks_g ?_ | refine Kl_g ?_ | refine blk_g ?_ | refine jmp_g ?_ | refine jmp_n ?_ | refine jmp_r ?_ | refine nog_n ?_ | refine nog_r ?_ | refine blk_n ?_ | refine blk_r ?_ | refine blk_e ?_ | refine blk_o (by decide) ?_ | refine cp_t ?_ | refine cp_f ?_
      | ((with_reducible apply vCond_x); (focus (simp only [lv, E1, E2, E5, ET, T, orc_mv, noO_mv, mvB, orc_bx, noO_bx, bxB, orc_sx, noO_sx, sxB, fwd, fwds, inv, mOk, Int.toNat_natCast, Nat.div_one, Nat.mul_one, Int.reduceToNat, SB, List.not_mem_nil, ↓reduceIte, ne_eq, reduceCtorEq, Nat.reduceLT, Nat.reduceEqDiff, Nat.reduceAdd, Nat.reduceMul, Nat.reduceLeDiff, Nat.reduceDiv, Nat.reduceMod, Nat.reduceSub, Nat.reduceBEq, List.length_map, rn_len, nts_len, cut_nts, List.length_take, List.length_drop]; with_reducible first | exact Eq.refl (bo true) | exact Eq.refl (bo false))))
      | ((with_reducible refine And.intro ?_ ?_); (focus (try omega)))
    all_goals try (exfalso; omega)
    · rename_i h3 h4
      exact Kl_n ⟨(k + 1, false), (hJ.s0 (by omega) h4 he), by show I.length - (k + 1) < I.length - k; omega, by simp only [Int.natCast_add, Int.natCast_one]⟩
    · rename_i h3 h4 h5
      refine Kf_r ?_
      simp only [Try.f25, E4, E3, E2, E5, rawX, deadX, ET, T, SB, List.not_mem_nil, ↓reduceIte, ne_eq, reduceCtorEq, Nat.reduceLT, Nat.reduceEqDiff, Nat.reduceAdd, Nat.reduceMul, Nat.reduceLeDiff, Nat.reduceDiv, Nat.reduceMod, Nat.reduceSub, Nat.reduceBEq, List.length_map, rn_len, nts_len, cut_nts, List.length_take, List.length_drop]
      rw [if_pos (DirI.hit (by omega) h5)]
    · rename_i h3 h4 h5
      exact Kl_n ⟨(k + 1, true), (hJ.s1 (by omega) h4 h5 he), by show I.length - (k + 1) < I.length - k; omega, by simp only [Int.natCast_add, Int.natCast_one]⟩
    · rename_i h3
      refine Kf_r ?_
      simp only [Try.f25, E4, E3, E2, E5, rawX, deadX, ET, T, SB, List.not_mem_nil, ↓reduceIte, ne_eq, reduceCtorEq, Nat.reduceLT, Nat.reduceEqDiff, Nat.reduceAdd, Nat.reduceMul, Nat.reduceLeDiff, Nat.reduceDiv, Nat.reduceMod, Nat.reduceSub, Nat.reduceBEq, List.length_map, rn_len, nts_len, cut_nts, List.length_take, List.length_drop]
      rw [hJ.e0 (by omega), hJ.e1 (by omega) he]; rfl
  · skip
    repeat' first
      | ((first
          | ((with_reducible refine vR_cons (by decide) ?_); generalize hk : KtR _ _ _ _ _ _ _ _ _ _ = k)
          | ((first
          | with_reducible refine vOps_cons' ?_
          | ((with_reducible apply orc_i); (focus (exact side_ok _; done)))) <;> generalize hk : Kt _ _ _ _ _ _ _ _ _ = k)) <;> (simp only [Try.f25, lv, E1, E2, E5, ET, T, orc_mv, noO_mv, mvB, orc_bx, noO_bx, bxB, orc_sx, noO_sx, sxB, fwd, fwds, inv, mOk, Int.toNat_natCast, Nat.div_one, Nat.mul_one, Int.reduceToNat, SB, List.not_mem_nil, ↓reduceIte, ne_eq, reduceCtorEq, Nat.reduceLT, Nat.reduceEqDiff, Nat.reduceAdd, Nat.reduceMul, Nat.reduceLeDiff, Nat.reduceDiv, Nat.reduceMod, Nat.reduceSub, Nat.reduceBEq, List.length_map, rn_len, nts_len, cut_nts, List.length_take, List.length_drop]; (try simp (disch := omega) only [wrap_in, Int.toNat_natCast, tv_rn, tv_nts]); subst hk))
      | with_reducible first | refine Kt_p ?_ | refine Kt_i (by kernel_rfl) ?_ | refine Kr_f (by kernel_rfl) ?_
      | (with_reducible refine Kr_t ?_; simp only [List.length_append, List.length_cons, List.length_nil, Nat.reduceAdd, Nat.reduceSub, List.drop_succ_cons, List.drop_zero])
      | with_reducible first | refine vR_nil ?_ | refine KtR_i (by kernel_rfl) ?_ | refine KrR_i (by kernel_rfl) ?_ | refine vR_skip (by decide) ?_
      | ((with_reducible refine vB_i ?_ ?_) <;> intro _ <;> (first | (exfalso; omega) | (exact absurd trivial ‹¬True›) | (try dsimp only [])))
      | ((with_reducible refine vOps_nil' ?_); refine Kr_i (by kernel_rfl) ?_; generalize hk : plain _ _ = G; simp only [lv, E3, E2, E5, rawX, deadX, SB, List.not_mem_nil, ↓reduceIte, ne_eq, reduceCtorEq, Nat.reduceLT, Nat.reduceEqDiff, Nat.reduceAdd, Nat.reduceMul, Nat.reduceLeDiff, Nat.reduceDiv, Nat.reduceMod, Nat.reduceSub, Nat.reduceBEq, List.length_map, rn_len, nts_len, cut_nts, List.length_take, List.length_drop] at hk; subst hk)
      | with_reducible refine vSeq_i ?_
      | with_reducible first | refine vRegion_i (by kernel_rfl) ?_ | refine Kv_i ?_
      | ((with_reducible apply vStrK_i); (focus (rfl; done)))
      | ((with_reducible refine imp_i ?_); intro _)
      | with_reducible first | refine Ks_n ?_ | refine Ks_r ?_ | refine Ks_e ?_ | refine Kl_e ?_ | refine Kx_n ?_ | refine Kl_r ?_ | refine vRet_i ?_ | refine vSkip_i ?_ | refine vExit_i ?_ | refine vBlock_i ?_ | refine Ks_p ?_ | refine Kl_p ?_ | refine blk_p ?_ | exact Kb_p | refine vGoto_i ?_ | refine vLabel_i ?_ | refine Ks_g ?_ | refine Kl_g ?_ | refine blk_g ?_ | refine jmp_g ?_ | refine jmp_n ?_ | refine jmp_r ?_ | refine nog_n ?_ | refine nog_r ?_ | refine blk_n ?_ | refine blk_r ?_ | refine blk_e ?_ | refine blk_o (by decide) ?_ | refine cp_t ?_ | refine cp_f ?_
      | ((with_reducible apply vCond_x); (focus (simp only [lv, E1, E2, E5, ET, T, orc_mv, noO_mv, mvB, orc_bx, noO_bx, bxB, orc_sx, noO_sx, sxB, fwd, fwds, inv, mOk, Int.toNat_natCast, Nat.div_one, Nat.mul_one, Int.reduceToNat, SB, List.not_mem_nil, ↓reduceIte, ne_eq, reduceCtorEq, Nat.reduceLT, Nat.reduceEqDiff, Nat.reduceAdd, Nat.reduceMul, Nat.reduceLeDiff, Nat.reduceDiv, Nat.reduceMod, Nat.reduceSub, Nat.reduceBEq, List.length_map, rn_len, nts_len, cut_nts, List.length_take, List.length_drop]; with_reducible first | exact Eq.refl (bo true) | exact Eq.refl (bo false))))
      | ((with_reducible refine And.intro ?_ ?_); (focus (try omega)))
    all_goals try (exfalso; omega)
    · rename_i h3 h4
      exact Kl_n ⟨(k + 1, true), (hJ.s0 (by omega) h4 he), by show I.length - (k + 1) < I.length - k; omega, by simp only [Int.natCast_add, Int.natCast_one]⟩
    · rename_i h3 h4 h5
      refine Kf_r ?_
      simp only [Try.f25, E4, E3, E2, E5, rawX, deadX, ET, T, SB, List.not_mem_nil, ↓reduceIte, ne_eq, reduceCtorEq, Nat.reduceLT, Nat.reduceEqDiff, Nat.reduceAdd, Nat.reduceMul, Nat.reduceLeDiff, Nat.reduceDiv, Nat.reduceMod, Nat.reduceSub, Nat.reduceBEq, List.length_map, rn_len, nts_len, cut_nts, List.length_take, List.length_drop]
      rw [if_pos (DirI.hit (by omega) h5)]
    · rename_i h3 h4 h5
      exact Kl_n ⟨(k + 1, true), (hJ.s1 (by omega) h4 h5 he), by show I.length - (k + 1) < I.length - k; omega, by simp only [Int.natCast_add, Int.natCast_one]⟩
    · rename_i h3
      rw [hJ.e0 (by omega), hJ.e2]
      simp only [Bool.false_eq_true, if_false, if_true]
      refine vLoop_s (fun z : Nat => [(.t 0, .t (sl (nts t))), (.t 12, .t (i64 sos)), (.t 13, .t (i64 ((z : Int) - 1)))]) (fun z => z ≤ a ∧ ahd t sos a = ahd t sos z) (fun z => z) a ⟨by omega, rfl⟩ rfl ?_
      rintro z ⟨hz, heq⟩
      cases z with
      | zero =>
        repeat' first
          | ((first
              | ((with_reducible refine vR_cons (by decide) ?_); generalize hk : KtR _ _ _ _ _ _ _ _ _ _ = k)
              | ((first
              | with_reducible refine vOps_cons' ?_) <;> generalize hk : Kt _ _ _ _ _ _ _ _ _ = k)) <;> (simp only [Try.f25, lv, E1, E2, E5, ET, T, orc_mv, noO_mv, mvB, orc_bx, noO_bx, bxB, orc_sx, noO_sx, sxB, fwd, fwds, inv, mOk, Int.toNat_natCast, Nat.div_one, Nat.mul_one, Int.reduceToNat, SB, List.not_mem_nil, ↓reduceIte, ne_eq, reduceCtorEq, Nat.reduceLT, Nat.reduceEqDiff, Nat.reduceAdd, Nat.reduceMul, Nat.reduceLeDiff, Nat.reduceDiv, Nat.reduceMod, Nat.reduceSub, Nat.reduceBEq, List.length_map, rn_len, nts_len, cut_nts, List.length_take, List.length_drop]; (try simp (disch := omega) only [wrap_in, Int.toNat_natCast, tv_rn, tv_nts]); subst hk))
          | with_reducible first | refine Kt_p ?_ | refine Kt_i (by kernel_rfl) ?_ | refine Kr_f (by kernel_rfl) ?_
          | (with_reducible refine Kr_t ?_; simp only [List.length_append, List.length_cons, List.length_nil, Nat.reduceAdd, Nat.reduceSub, List.drop_succ_cons, List.drop_zero])
          | with_reducible first | refine vR_nil ?_ | refine KtR_i (by kernel_rfl) ?_ | refine KrR_i (by kernel_rfl) ?_ | refine vR_skip (by decide) ?_
          | ((with_reducible refine vB_i ?_ ?_) <;> intro _ <;> (first | (exfalso; omega) | (exact absurd trivial ‹¬True›) | (try dsimp only [])))
          | ((with_reducible refine vOps_nil' ?_); refine Kr_i (by kernel_rfl) ?_; generalize hk : plain _ _ = G; simp only [lv, E3, E2, E5, rawX, deadX, SB, List.not_mem_nil, ↓reduceIte, ne_eq, reduceCtorEq, Nat.reduceLT, Nat.reduceEqDiff, Nat.reduceAdd, Nat.reduceMul, Nat.reduceLeDiff, Nat.reduceDiv, Nat.reduceMod, Nat.reduceSub, Nat.reduceBEq, List.length_map, rn_len, nts_len, cut_nts, List.length_take, List.length_drop] at hk; subst hk)
          | with_reducible refine vSeq_i ?_
          | with_reducible first | refine vRegion_i (by kernel_rfl) ?_ | refine Kv_i ?_
          | ((with_reducible apply vStrK_i); (focus (rfl; done)))
          | ((with_reducible refine imp_i ?_); intro _)
          | with_reducible first | refine Ks_n ?_ | refine Ks_r ?_ | refine Ks_e ?_ | refine Kl_e ?_ | refine Kx_n ?_ | refine Kl_r ?_ | refine vRet_i ?_ | refine vSkip_i ?_ | refine vExit_i ?_ | refine vBlock_i ?_ | refine Ks_p ?_ | refine Kl_p ?_ | refine blk_p ?_ | exact Kb_p | refine vGoto_i ?_ | refine vLabel_i ?_ | refine Ks_g ?_ | refine Kl_g ?_ | refine blk_g ?_ | refine jmp_g ?_ | refine jmp_n ?_ | refine jmp_r ?_ | refine nog_n ?_ | refine nog_r ?_ | refine blk_n ?_ | refine blk_r ?_ | refine blk_e ?_ | refine blk_o (by decide) ?_ | refine cp_t ?_ | refine cp_f ?_
          | ((with_reducible apply vCond_x); (focus (simp only [lv, E1, E2, E5, ET, T, orc_mv, noO_mv, mvB, orc_bx, noO_bx, bxB, orc_sx, noO_sx, sxB, fwd, fwds, inv, mOk, Int.toNat_natCast, Nat.div_one, Nat.mul_one, Int.reduceToNat, SB, List.not_mem_nil, ↓reduceIte, ne_eq, reduceCtorEq, Nat.reduceLT, Nat.reduceEqDiff, Nat.reduceAdd, Nat.reduceMul, Nat.reduceLeDiff, Nat.reduceDiv, Nat.reduceMod, Nat.reduceSub, Nat.reduceBEq, List.length_map, rn_len, nts_len, cut_nts, List.length_take, List.length_drop]; with_reducible first | exact Eq.refl (bo true) | exact Eq.refl (bo false))))
          | ((with_reducible refine And.intro ?_ ?_); (focus (try omega)))
        all_goals try (exfalso; omega)
        refine Kf_r ?_
        simp only [Try.f25, E4, E3, E2, E5, rawX, deadX, ET, T, SB, List.not_mem_nil, ↓reduceIte, ne_eq, reduceCtorEq, Nat.reduceLT, Nat.reduceEqDiff, Nat.reduceAdd, Nat.reduceMul, Nat.reduceLeDiff, Nat.reduceDiv, Nat.reduceMod, Nat.reduceSub, Nat.reduceBEq, List.length_map, rn_len, nts_len, cut_nts, List.length_take, List.length_drop, heq, ahd]
      | succ m =>
        rw [show (((m + 1 : Nat) : Int) - 1) = (m : Int) by omega]
        repeat' first
          | ((first
              | ((with_reducible refine vR_cons (by decide) ?_); generalize hk : KtR _ _ _ _ _ _ _ _ _ _ = k)
              | ((first
              | with_reducible refine vOps_cons' ?_
              | ((with_reducible apply orc_i); (focus (exact side_ok _; done)))) <;> generalize hk : Kt _ _ _ _ _ _ _ _ _ = k)) <;> (simp only [Try.f25, lv, E1, E2, E5, ET, T, orc_mv, noO_mv, mvB, orc_bx, noO_bx, bxB, orc_sx, noO_sx, sxB, fwd, fwds, inv, mOk, Int.toNat_natCast, Nat.div_one, Nat.mul_one, Int.reduceToNat, SB, List.not_mem_nil, ↓reduceIte, ne_eq, reduceCtorEq, Nat.reduceLT, Nat.reduceEqDiff, Nat.reduceAdd, Nat.reduceMul, Nat.reduceLeDiff, Nat.reduceDiv, Nat.reduceMod, Nat.reduceSub, Nat.reduceBEq, List.length_map, rn_len, nts_len, cut_nts, List.length_take, List.length_drop]; (try simp (disch := omega) only [wrap_in, Int.toNat_natCast, tv_rn, tv_nts]); subst hk))
          | with_reducible first | refine Kt_p ?_ | refine Kt_i (by kernel_rfl) ?_ | refine Kr_f (by kernel_rfl) ?_
          | (with_reducible refine Kr_t ?_; simp only [List.length_append, List.length_cons, List.length_nil, Nat.reduceAdd, Nat.reduceSub, List.drop_succ_cons, List.drop_zero])
          | with_reducible first | refine vR_nil ?_ | refine KtR_i (by kernel_rfl) ?_ | refine KrR_i (by kernel_rfl) ?_ | refine vR_skip (by decide) ?_
          | ((with_reducible refine vB_i ?_ ?_) <;> intro _ <;> (first | (exfalso; omega) | (exact absurd trivial ‹¬True›) | (try dsimp only [])))
          | ((with_reducible refine vOps_nil' ?_); refine Kr_i (by kernel_rfl) ?_; generalize hk : plain _ _ = G; simp only [lv, E3, E2, E5, rawX, deadX, SB, List.not_mem_nil, ↓reduceIte, ne_eq, reduceCtorEq, Nat.reduceLT, Nat.reduceEqDiff, Nat.reduceAdd, Nat.reduceMul, Nat.reduceLeDiff, Nat.reduceDiv, Nat.reduceMod, Nat.reduceSub, Nat.reduceBEq, List.length_map, rn_len, nts_len, cut_nts, List.length_take, List.length_drop] at hk; subst hk)
          | with_reducible refine vSeq_i ?_
          | with_reducible first | refine vRegion_i (by kernel_rfl) ?_ | refine Kv_i ?_
          | ((with_reducible apply vStrK_i); (focus (rfl; done)))
          | ((with_reducible refine imp_i ?_); intro _)
          | with_reducible first | refine Ks_n ?_ | refine Ks_r ?_ | refine Ks_e ?_ | refine Kl_e ?_ | refine Kx_n ?_ | refine Kl_r ?_ | refine vRet_i ?_ | refine vSkip_i ?_ | refine vExit_i ?_ | refine vBlock_i ?_ | refine Ks_p ?_ | refine Kl_p ?_ | refine blk_p ?_ | exact Kb_p | refine vGoto_i ?_ | refine vLabel_i ?_ | refine Ks_g ?_ | refine Kl_g ?_ | refine blk_g ?_ | refine jmp_g ?_ | refine jmp_n ?_ | refine jmp_r ?_ | refine nog_n ?_ | refine nog_r ?_ | refine blk_n ?_ | refine blk_r ?_ | refine blk_e ?_ | refine blk_o (by decide) ?_ | refine cp_t ?_ | refine cp_f ?_
          | ((with_reducible apply vCond_x); (focus (simp only [lv, E1, E2, E5, ET, T, orc_mv, noO_mv, mvB, orc_bx, noO_bx, bxB, orc_sx, noO_sx, sxB, fwd, fwds, inv, mOk, Int.toNat_natCast, Nat.div_one, Nat.mul_one, Int.reduceToNat, SB, List.not_mem_nil, ↓reduceIte, ne_eq, reduceCtorEq, Nat.reduceLT, Nat.reduceEqDiff, Nat.reduceAdd, Nat.reduceMul, Nat.reduceLeDiff, Nat.reduceDiv, Nat.reduceMod, Nat.reduceSub, Nat.reduceBEq, List.length_map, rn_len, nts_len, cut_nts, List.length_take, List.length_drop]; with_reducible first | exact Eq.refl (bo true) | exact Eq.refl (bo false))))
          | ((with_reducible refine And.intro ?_ ?_); (focus (try omega)))
        all_goals try (exfalso; omega)
        · rename_i h5 h6
          exact Kl_n ⟨m, ⟨by omega, by rw [heq, ahd, if_neg (fun q => q h6)]⟩, by omega, rfl⟩
        · rename_i h5 h6
          refine Kf_r ?_
          simp only [Try.f25, E4, E3, E2, E5, rawX, deadX, ET, T, SB, List.not_mem_nil, ↓reduceIte, ne_eq, reduceCtorEq, Nat.reduceLT, Nat.reduceEqDiff, Nat.reduceAdd, Nat.reduceMul, Nat.reduceLeDiff, Nat.reduceDiv, Nat.reduceMod, Nat.reduceSub, Nat.reduceBEq, List.length_map, rn_len, nts_len, cut_nts, List.length_take, List.length_drop]
          rw [heq, ahd, if_pos h6]
end Go.Proofs.YtncabdcaamkhiaaG
/- M2: pairs of places are sorted in their place (slices.SortFunc, by the library's own contract). -/
namespace Go.Proofs.YtncabdcaamkhiaaG
open Go Go.RowKit Go.Shelf Go.Lib Go.Sort Go.Proofs
set_option linter.unusedVariables false
set_option linter.unusedSimpArgs false
def sortP_ren : Go.Shelf.Ren := ⟨fun | 6 => 20 | 15 => 31 | 14 => 30 | 28 => 46 | 29 => 47 | 20 => 38 | 21 => 39 | 22 => 40 | 23 => 41 | 24 => 42 | 25 => 43 | 26 => 44 | 27 => 45 | 46 => 50 | 47 => 51 | 48 => 52 | 49 => 53 | 50 => 54 | 57 => 55 | n => n, fun | 22 => 25 | 24 => 42 | 25 => 54 | 3 => 3 | 39 => 65 | 0 => 0 | 53 => 79 | 55 => 47 | 4 => 4 | 46 => 72 | 45 => 71 | 50 => 76 | 5 => 5 | 9 => 9 | 66 => 83 | 70 => 87 | 76 => 89 | 77 => 90 | n => n, fun | n => n⟩
theorem sortP : Go.Proofs.SlLaysF0.n6 Try.prog sortP_ren where
  mixed := by kernel_rfl
  f6 := ⟨Try.f20.name, by kernel_rfl, Try.func20.trans (congrArg some (by kernel_rfl))⟩
  f14 := ⟨Try.f30.name, by kernel_rfl, Try.func30.trans (congrArg some (by kernel_rfl))⟩
  f15 := Try.func31.trans (congrArg some (by kernel_rfl))
  f20 := ⟨Try.f38.name, by kernel_rfl, Try.func38.trans (congrArg some (by kernel_rfl))⟩
  f21 := ⟨Try.f39.name, by kernel_rfl, Try.func39.trans (congrArg some (by kernel_rfl))⟩
  f22 := ⟨Try.f40.name, by kernel_rfl, Try.func40.trans (congrArg some (by kernel_rfl))⟩
  f23 := ⟨Try.f41.name, by kernel_rfl, Try.func41.trans (congrArg some (by kernel_rfl))⟩
  f24 := ⟨Try.f42.name, by kernel_rfl, Try.func42.trans (congrArg some (by kernel_rfl))⟩
  f25 := ⟨Try.f43.name, by kernel_rfl, Try.func43.trans (congrArg some (by kernel_rfl))⟩
  f26 := ⟨Try.f44.name, by kernel_rfl, Try.func44.trans (congrArg some (by kernel_rfl))⟩
  f27 := ⟨Try.f45.name, by kernel_rfl, Try.func45.trans (congrArg some (by kernel_rfl))⟩
  f28 := Try.func46.trans (congrArg some (by kernel_rfl))
  f29 := Try.func47.trans (congrArg some (by kernel_rfl))
  f46 := ⟨Try.f50.name, by kernel_rfl, Try.func50.trans (congrArg some (by kernel_rfl))⟩
  f47 := Try.func51.trans (congrArg some (by kernel_rfl))
  f48 := Try.func52.trans (congrArg some (by kernel_rfl))
  f49 := ⟨Try.f53.name, by kernel_rfl, Try.func53.trans (congrArg some (by kernel_rfl))⟩
  f50 := ⟨Try.f54.name, by kernel_rfl, Try.func54.trans (congrArg some (by kernel_rfl))⟩
  f57 := ⟨Try.f55.name, by kernel_rfl, Try.func55.trans (congrArg some (by kernel_rfl))⟩
  t0 := Try.underlying0
  a0 := Try.isAgg0
  z0 := Try.sizeOf0
  v0 := Try.zeroValue0
  t3 := Try.underlying3
  a3 := Try.isAgg3
  z3 := Try.sizeOf3
  v3 := Try.zeroValue3
  t4 := Try.underlying4
  a4 := Try.isAgg4
  z4 := Try.sizeOf4
  v4 := Try.zeroValue4
  t5 := Try.underlying5
  a5 := Try.isAgg5
  z5 := Try.sizeOf5
  v5 := Try.zeroValue5
  t9 := Try.underlying9
  a9 := Try.isAgg9
  z9 := Try.sizeOf9
  v9 := Try.zeroValue9
  t22 := Try.underlying25
  a22 := Try.isAgg25
  z22 := Try.sizeOf25
  v22 := Try.zeroValue25
  t25 := Try.underlying54
  a25 := Try.isAgg54
  z25 := Try.sizeOf54
  v25 := Try.zeroValue54
  t39 := Try.underlying65
  a39 := Try.isAgg65
  z39 := Try.sizeOf65
  v39 := Try.zeroValue65
  t45 := Try.underlying71
  a45 := Try.isAgg71
  z45 := Try.sizeOf71
  v45 := Try.zeroValue71
  t46 := Try.underlying72
  a46 := Try.isAgg72
  z46 := Try.sizeOf72
  v46 := Try.zeroValue72
  t50 := Try.underlying76
  a50 := Try.isAgg76
  z50 := Try.sizeOf76
  v50 := Try.zeroValue76
  t53 := Try.underlying79
  a53 := Try.isAgg79
  z53 := Try.sizeOf79
  v53 := Try.zeroValue79
  t55 := Try.underlying47
  a55 := Try.isAgg47
  z55 := Try.sizeOf47
  v55 := Try.zeroValue47
  t66 := Try.underlying83
  a66 := Try.isAgg83
  z66 := Try.sizeOf83
  v66 := Try.zeroValue83
  t70 := Try.underlying87
  a70 := Try.isAgg87
  z70 := Try.sizeOf87
  v70 := Try.zeroValue87
  t76 := Try.underlying89
  a76 := Try.isAgg89
  z76 := Try.sizeOf89
  v76 := Try.zeroValue89
  t77 := Try.underlying90
  a77 := Try.isAgg90
  z77 := Try.sizeOf90
  v77 := Try.zeroValue90
/-- A pair, its first number a place. -/
abbrev P2 := Fin 1099511627776 × Int
def enc2 (x : P2) : List Value := [.int .i64 (x.1.val : Int), .int .i64 x.2]
def cf2 (x y : P2) : Int := (x.1.val : Int) - (y.1.val : Int)
theorem lt2 (x y : P2) : ltOf cf2 x y = decide (x.1.val < y.1.val) := by
  unfold ltOf cf2
  by_cases h : x.1.val < y.1.val
  · simp only [h, decide_true]; exact decide_eq_true (by omega)
  · simp only [h, decide_false]; exact decide_eq_false (by omega)
theorem swo2 : SWO (ltOf cf2) where
  irrefl x := by rw [lt2]; simp
  trans x y z h1 h2 := by rw [lt2] at *; simp at *; omega
  ntrans x y z h1 h2 := by rw [lt2] at *; simp at *; omega
theorem closure21 (x y : P2) (W : World) : Calls Try.prog 21 #[.agg #[.int .i64 (x.1.val : Int), .int .i64 x.2], .agg #[.int .i64 (y.1.val : Int), .int .i64 y.2]] W fun e w' => e = .returned (.int .i64 (cf2 x y)) ∧ ∃ q os', w' = grow (W.drewN q) os' := by
  have hx := x.1.isLt
  have hy := y.1.isLt
  have hw : IntKind.i64.wrap ((x.1.val : Int) - (y.1.val : Int)) = cf2 x y := by unfold cf2; rw [wrap_in (by omega) (by omega)]
  generalize cf2 x y = r at hw ⊢
  generalize (x.1.val : Int) = a at hw ⊢
  generalize (y.1.val : Int) = b at hw ⊢
  go_enter Try.func21, Try.ntmps21
  go_wp2
  go_ret
  exact ⟨rfl, 0, _, by rw [alloc_eq_grow, alloc_eq_grow, grow_grow]; rfl⟩
theorem eg21 : ∀ args w, (callFunc 21 args).run Try.prog w = .ok (.enter 21 args) w := enters_of Try.func21 (by kernel_rfl) rfl
theorem lays21 (blk off size : Nat) (w : World) : CmpLays Try.prog 21 #[] enc2 2 cf2 blk off size w := fun _ _ _ _ x y => closure21 x y _
def cells2 (l : List P2) : List Value := l.flatMap enc2
theorem cells2_len (l : List P2) : (cells2 l).length = l.length * 2 := by
  induction l with
  | nil => rfl
  | cons x l ih => simp only [cells2, List.flatMap_cons, List.length_append, List.length_cons] at ih ⊢; rw [ih]; simp only [enc2, List.length_cons, List.length_nil]; omega
theorem cells2_at : ∀ (l : List P2) (t : Nat), t < l.length * 2 → (cells2 l)[t]? = some ((enc2 (l.getD (t / 2) default))[t % 2]!)
  | [], t, h => by simp at h
  | x :: l, 0, h => rfl
  | x :: l, 1, h => rfl
  | x :: l, t + 2, h => by
    have ih := cells2_at l t (by simp only [List.length_cons] at h; omega)
    have e1 : (t + 2) / 2 = t / 2 + 1 := by omega
    have e2 : (t + 2) % 2 = t % 2 := by omega
    rw [e1, e2]
    exact ih
theorem flat_eq (d : Array P2) : (flatK enc2 2 d).toList = cells2 d.toList := by
  apply List.ext_getElem?
  intro t
  by_cases h : t < d.size * 2
  · rw [cells2_at d.toList t (by simpa using h)]
    have hs : t < (flatK enc2 2 d).size := by simpa using h
    rw [Array.getElem?_toList, Array.getElem?_eq_getElem hs]
    congr 1
    have := get_flatK enc2 2 d t h
    rw [getElem!_pos _ t hs] at this
    rw [this]
    congr 2
    simp [List.getD, Array.getD, getElem!_def]
    cases d[t / 2]? <;> rfl
  · rw [List.getElem?_eq_none (by simpa using h), List.getElem?_eq_none (by rw [cells2_len]; simpa using h)]
/-- Pairs, by cells. -/
def prs (l : List (Int × Int)) : List SV := l.flatMap fun p => [.raw (.int .i64 p.1), .raw (.int .i64 p.2)]
theorem prs_len (l : List (Int × Int)) : (prs l).length = 2 * l.length := by
  induction l with
  | nil => rfl
  | cons x l ih => simp only [prs, List.flatMap_cons, List.length_append, List.length_cons, List.length_nil] at ih ⊢; omega
def toP (p : Int × Int) : P2 := (Fin.ofNat _ p.1.toNat, p.2)
def ofP (x : P2) : Int × Int := ((x.1.val : Int), x.2)
theorem ofP_toP {p : Int × Int} (h : 0 ≤ p.1 ∧ p.1 < 1099511627776) : ofP (toP p) = p := by
  unfold ofP toP
  have e : (Fin.ofNat 1099511627776 p.1.toNat).val = p.1.toNat := by
    show p.1.toNat % 1099511627776 = _
    exact Nat.mod_eq_of_lt (by omega)
  rw [Prod.ext_iff]
  exact ⟨by simp only [e]; omega, rfl⟩
theorem prs_cells {w : World} {o : Nat → Tag} {vs : List Value} : ∀ {l : List (Int × Int)}, All2 (SVR w o) vs (prs l) → vs = l.flatMap fun p => [.int .i64 p.1, .int .i64 p.2]
  | [], h => List.eq_nil_of_length_eq_zero (by have := h.1; simpa [prs] using this)
  | p :: l, h => by
    match vs, h with
    | [], h => have := h.1; simp [prs] at this
    | [a], h => have := h.1; simp [prs] at this
    | a :: b :: r, h =>
      have h' : All2 (SVR w o) (a :: b :: r) (.raw (.int .i64 p.1) :: .raw (.int .i64 p.2) :: prs l) := h
      have e1 : a = .int .i64 p.1 := by cases h'.head; rfl
      have e2 : b = .int .i64 p.2 := by cases h'.tail.head; rfl
      have e3 := prs_cells h'.tail.tail
      rw [e1, e2, e3]
      rfl
theorem prs_all2 (w : World) (o : Nat → Tag) : ∀ (l : List P2), All2 (SVR w o) (cells2 l) (prs (l.map ofP))
  | [] => .nil
  | x :: l => .cons (.raw _ rfl) (.cons (.raw _ rfl) (prs_all2 w o l))
theorem cells2_to {l : List (Int × Int)} (h : ∀ p ∈ l, 0 ≤ p.1 ∧ p.1 < 1099511627776) : (l.flatMap fun p => [Value.int .i64 p.1, Value.int .i64 p.2]) = cells2 (l.map toP) := by
  induction l with
  | nil => rfl
  | cons p l ih =>
    have hp := ofP_toP (h p (by simp))
    rw [List.flatMap_cons, ih fun q hq => h q (by simp [hq]), List.map_cons]
    show _ = enc2 (toP p) ++ cells2 (l.map toP)
    congr 1
    show [Value.int .i64 p.1, Value.int .i64 p.2] = [Value.int .i64 (ofP (toP p)).1, Value.int .i64 (ofP (toP p)).2]
    rw [hp]
/-- Two rising lists of the same pairs are one. -/
theorem rise_one : ∀ {a b : List (Int × Int)}, a.Perm b → a.Pairwise (fun x y => x.1 < y.1) → b.Pairwise (fun x y => x.1 < y.1) → a = b
  | [], b, hp, _, _ => hp.nil_eq
  | x :: a, [], hp, _, _ => absurd hp.length_eq (by simp)
  | x :: a, y :: b, hp, ha, hb => by
    obtain ⟨ha1, ha2⟩ := List.pairwise_cons.1 ha
    obtain ⟨hb1, hb2⟩ := List.pairwise_cons.1 hb
    have hxy : x = y := by
      rcases List.mem_cons.1 (hp.mem_iff.1 (List.mem_cons_self : x ∈ x :: a)) with h | h
      · exact h
      · rcases List.mem_cons.1 (hp.mem_iff.2 (List.mem_cons_self : y ∈ y :: b)) with h' | h'
        · exact h'.symm
        · have h1 := hb1 x h
          have h2 := ha1 y h'
          omega
    subst hxy
    rw [rise_one ((List.perm_cons x).1 hp) ha2 hb2]
theorem put_at (w : World) (m blk : Nat) (F : Array Value) (os : Array Obj) {cur : Array Value} {ty : Nat} {f : Nat × Nat} (h : w.heap[blk]? = some (.cells cur ty f)) :
    (grow (putRow id (Sort.ahead w m) blk 0 F) os).heap[blk]? = some (.cells (putCells id 0 F cur) ty f) := by
  have hlt : blk < w.heap.size := by
    rcases Nat.lt_or_ge blk w.heap.size with h' | h'
    · exact h'
    · simp [Array.getElem?_eq_none h'] at h
  show ((w.heap.modify blk (onCells (putCells id 0 F))) ++ os)[blk]? = _
  rw [Array.getElem?_append_left (by simpa using hlt), Array.getElem?_modify, if_pos rfl, h]
  rfl
theorem put_other (w : World) (m blk : Nat) (F : Array Value) (os : Array Obj) {b : Nat} (hb : b < w.heap.size) (hne : b ≠ blk) :
    (grow (putRow id (Sort.ahead w m) blk 0 F) os).heap[b]? = w.heap[b]? := by
  show ((w.heap.modify blk (onCells (putCells id 0 F))) ++ os)[b]? = _
  rw [Array.getElem?_append_left (by simpa using hb), Array.getElem?_modify, if_neg (fun e => hne e.symm)]
theorem put_take (F cur : Array Value) (h : F.size ≤ cur.size) : (putCells id 0 F cur).toList.take F.size = F.toList := by
  apply List.ext_getElem?
  intro t
  rw [List.getElem?_take]
  by_cases ht : t < F.size
  · rw [if_pos ht, Array.getElem?_toList, Array.getElem?_toList]
    simp [putCells, Array.getElem?_mapIdx, Array.getElem?_eq_getElem (show t < cur.size by omega), Array.getElem?_eq_getElem ht, ht]
  · rw [if_neg ht, List.getElem?_eq_none (by simpa using ht)]
theorem put_size (F cur : Array Value) : (putCells id 0 F cur).size = cur.size := by simp [putCells]
set_option maxHeartbeats 1000000 in
/-- slices.SortFunc, at pairs of places whose first ones are unlike. -/
theorem sort_calls (l l' : List (Int × Int)) (hb : ∀ p ∈ l, 0 ≤ p.1 ∧ p.1 < 1099511627776) (hn : (l.map (·.1)).Nodup) (hp : l'.Perm l) (hs : l'.Pairwise fun x y => x.1 < y.1) (hl : l.length ≤ 1000000000000) :
    CallS Try.prog 20 (42, 2, prs l) [.p (.one (.v (.raw (.func (.func 21) #[] #[]))))] (prs l') := by
  refine ⟨enters_of Try.func20 (by kernel_rfl) rfl, fun w vs g hg hlt ha hr => ?_⟩
  obtain ⟨s, vs1, rfl⟩ : ∃ s vs1, vs = s :: vs1 := by
    cases vs with
    | nil => have := ha.1; simp at this
    | cons s vs1 => exact ⟨s, vs1, rfl⟩
  obtain ⟨c, rfl⟩ : ∃ c, vs1 = [c] := by
    have := ha.1
    match vs1 with
    | [c] => exact ⟨c, rfl⟩
    | [] => simp at this
    | _ :: _ :: _ => simp at this
  have hc : c = .func (.func 21) #[] #[] := (raw_of (g := g) (show XR w g c (rawX _) from ha.tail.head)).1
  have hsv : s = g.hd 0 := ha.head
  subst hc
  obtain ⟨n, vs, he, hxl, ho, hall⟩ := hr
  dsimp only at he hxl ho hall
  have hln : n = l.length := by rw [prs_len] at hxl; omega
  have hv := prs_cells hall
  rw [cells2_to hb] at hv
  by_cases h0 : n = 0
  · have hl0 : l = [] := List.eq_nil_of_length_eq_zero (by omega)
    subst hl0
    have hl1 : l' = [] := hp.eq_nil
    subst hl1
    obtain ⟨p, cap, hhd⟩ : ∃ p cap, g.hd 0 = .slice p 0 cap := by
      rcases ho with ⟨h1, _⟩ | ⟨_, _, b, h1⟩
      · rcases h1.2 with ⟨h1, _⟩ | ⟨k, cap, cur, h1, _⟩
        · exact ⟨none, 0, h1⟩
        · rw [h0] at h1; exact ⟨_, cap, h1⟩
      · exact ⟨some b, 0, h1⟩
    rw [hsv, hhd]
    have hcon := AnyF.slices_SortFunc_none sortP p cap (.func (.func 21) #[] #[]) w
    change Calls Try.prog 20 _ _ _ at hcon
    refine hcon.mono ?_
    rintro e w' ⟨rfl, rfl⟩
    exact ⟨_, rfl, Fr.refl _ _, n, vs, he, hxl, ho, hall⟩
  · rcases ho with ⟨hown, htag⟩ | ⟨hz, _⟩
    case inr => exact absurd hz h0
    rcases hown.2 with ⟨_, hz⟩ | ⟨blk, cap, cur, hhd, _, hheap, hcap, hmax, hsize, htake⟩
    · exact absurd hz h0
    have hblk : blk < w.heap.size := by
      rcases Nat.lt_or_ge blk w.heap.size with h' | h'
      · exact h'
      · simp [Array.getElem?_eq_none h'] at hheap
    have htg : g.o blk = .row 0 := htag blk (by rw [hhd]; rfl)
    have hd : (l.map toP).toArray.size = n := by simp [hln]
    have hfl : ((flatK enc2 2 (l.map toP).toArray)).toList = vs := by rw [flat_eq, hv]
    have hH : HoldsK enc2 2 w blk 0 (l.map toP).toArray := by
      intro j hj
      have hjn : j < n * 2 := by rw [size_flatK, hd] at hj; exact hj
      have hjc : j < cur.size := by rw [hsize]; have := Nat.mul_le_mul_right 2 hcap; omega
      have e1 : cur[j]? = some (flatK enc2 2 (l.map toP).toArray)[j]! := by
        have h1 : vs[j]? = cur.toList[j]? := by rw [← htake, List.getElem?_take, if_pos hjn]
        rw [← hfl, Array.getElem?_toList, Array.getElem?_eq_getElem hj, Array.getElem?_toList] at h1
        rw [← h1, getElem!_pos _ j hj]
      refine ⟨?_, ?_⟩
      · simp only [World.cell?, Nat.zero_add, hheap]
        exact e1
      · simp [World.frozen?, hheap]
    rw [hsv, hhd, show n = (l.map toP).toArray.size from hd.symm]
    have hcon := AnyQ.slices_SortFunc sortP 2 Try.isAgg42 Try.sizeOf42 enc2 (fun _ => rfl) (fun x v hv => by simp [enc2] at hv; rcases hv with rfl | rfl <;> rfl) cf2 swo2 21 #[] blk 0 cap (l.map toP).toArray w eg21 (lays21 blk 0 _ w) hH hblk (by rw [hd]; omega)
    change Calls Try.prog 20 _ _ _ at hcon
    refine hcon.mono ?_
    rintro e w' ⟨rfl, d', m, os, hpm, hst, rfl⟩
    have hds : d'.size = n := by rw [hpm.1, hd]
    have hperm : d'.toList.Perm (l.map toP) := by
      have := hpm.2.2
      rw [hd, ← hds, Array.extract_size] at this
      have h2 : (l.map toP).toArray.extract 0 d'.size = (l.map toP).toArray := by rw [hds, ← hd, Array.extract_size]
      rw [h2] at this
      exact this
    have hmap : d'.toList.map ofP = l' := by
      have hback : (l.map toP).map ofP = l := by
        rw [List.map_map]
        conv => rhs; rw [← List.map_id l]
        exact List.map_congr_left fun p hpm => ofP_toP (hb p hpm)
      have hpp : (d'.toList.map ofP).Perm l' := by
        have := hperm.map ofP
        rw [hback] at this
        exact this.trans hp.symm
      have hnd : ((d'.toList.map ofP).map (·.1)).Nodup := ((hpp.trans hp).map (·.1)).nodup_iff.2 hn
      have hsorted : (d'.toList.map ofP).Pairwise fun x y => x.1 < y.1 := by
        rw [List.pairwise_iff_getElem]
        intro i j hi hj hij
        simp only [List.length_map, Array.length_toList] at hi hj
        have h1 := hst i j (Nat.zero_le _) hij (by rw [hd, ← hds]; exact hj)
        rw [lt2] at h1
        have h1 := of_decide_eq_false h1
        rw [getElem!_pos d' i hi, getElem!_pos d' j hj] at h1
        have h2 : ((d'.toList.map ofP).map (·.1))[i]'(by simpa using hi) ≠ ((d'.toList.map ofP).map (·.1))[j]'(by simpa using hj) := List.pairwise_iff_getElem.1 hnd i j _ _ hij
        simp only [List.getElem_map, Array.getElem_toList] at h2 ⊢
        unfold ofP at h2 ⊢
        simp only at h2 ⊢
        omega
      exact rise_one hpp hsorted hs
    have hF : (flatK enc2 2 d').size = n * 2 := by rw [size_flatK, hds]
    refine ⟨_, rfl, ⟨rfl, rfl, rfl, ?_, fun b hbl hbo => ⟨?_, rfl⟩, fun b hbl ⟨k, hk⟩ => ?_⟩, n, cells2 d'.toList, he, ?_, .inl ⟨⟨?_, .inr ⟨blk, cap, putCells id 0 (flatK enc2 2 d') cur, hhd, Nat.zero_le _, ?_, hcap, hmax, ?_, ?_⟩⟩, htag⟩, ?_⟩
    · show w.heap.size ≤ ((w.heap.modify blk _) ++ os).size
      simp
    · refine put_other w m blk _ os hbl fun e => ?_
      subst e
      rcases hbo with q | q <;> rw [htg] at q <;> cases q
    · rcases hg b with q | q | q <;> rw [hk] at q <;> cases q
    · rw [prs_len, ← hmap]; simp; omega
    · rw [cells2_len]; simp [hds]
    · exact put_at w m blk _ os hheap
    · rw [put_size, hsize]
    · rw [← hF, put_take _ _ (by rw [hF, hsize]; exact Nat.mul_le_mul_right 2 hcap), flat_eq]
    · rw [← hmap]; exact prs_all2 _ _ _
end Go.Proofs.YtncabdcaamkhiaaG
namespace Go.Proofs.YtncabdcaamkhiaaG
open Go Go.RowKit Go.Proofs
set_option linter.unusedSimpArgs false
set_option linter.unusedVariables false
def kindF (l t : List Int) (k : Nat) : Int := if t.getD k 0 ≠ 14 then 0 else (brF (l.getD k 0)).1
set_option maxRecDepth 10000 in
set_option maxHeartbeats 4000000 in
theorem kind_ok (l t : List Int) (k : Nat) (h1 : k < t.length) (h2 : t.length = l.length) (hl : l.length ≤ 2000000) : CallOk Try.prog 22 [sl (rn l), sl (nts t), i64 k] (i64 (kindF l t k)) [] true := by
  refine fn_ok' T_ok (orc_ok _) mixed Try.func22 rfl (by kernel_rfl) (lv [[0, 1, 2], [0, 2, 13], [6], [7], [6]]) 23 rfl (by simp) rfl (by simp [X.all, PX.all, TV.rawR, SV.isRaw]) ?_
  simp only [argsG, Nat.zero_add, Nat.reduceAdd]
  repeat' first
    | ((first
        | ((with_reducible refine vR_cons (by decide) ?_); generalize hk : KtR _ _ _ _ _ _ _ _ _ _ = k)
        | ((first
        | with_reducible refine vOps_cons' ?_
        | ((with_reducible apply orc_i); (focus (exact rbracket_ok _; done)))) <;> generalize hk : Kt _ _ _ _ _ _ _ _ _ = k)) <;> (simp only [Try.f22, lv, E1, E2, E5, ET, T, orc_mv, noO_mv, mvB, orc_bx, noO_bx, bxB, orc_sx, noO_sx, sxB, fwd, fwds, inv, mOk, Int.toNat_natCast, Nat.div_one, Nat.mul_one, Int.reduceToNat, SB, List.not_mem_nil, ↓reduceIte, ne_eq, reduceCtorEq, Nat.reduceLT, Nat.reduceEqDiff, Nat.reduceAdd, Nat.reduceMul, Nat.reduceLeDiff, Nat.reduceDiv, Nat.reduceMod, Nat.reduceSub, Nat.reduceBEq, List.length_map, rn_len, nts_len, cut_nts, List.length_take, List.length_drop]; (try simp (disch := omega) only [wrap_in, Int.toNat_natCast, tv_rn, tv_nts]); subst hk))
    | with_reducible first | refine Kt_p ?_ | refine Kt_i (by kernel_rfl) ?_ | refine Kr_f (by kernel_rfl) ?_
    | (with_reducible refine Kr_t ?_; simp only [List.length_append, List.length_cons, List.length_nil, Nat.reduceAdd, Nat.reduceSub, List.drop_succ_cons, List.drop_zero])
    | with_reducible first | refine vR_nil ?_ | refine KtR_i (by kernel_rfl) ?_ | refine KrR_i (by kernel_rfl) ?_ | refine vR_skip (by decide) ?_
    | ((with_reducible refine vB_i ?_ ?_) <;> intro _ <;> (first | (exfalso; omega) | (exact absurd trivial ‹¬True›) | (try dsimp only [])))
    | ((with_reducible refine vOps_nil' ?_); refine Kr_i (by kernel_rfl) ?_; generalize hk : plain _ _ = G; simp only [lv, E3, E2, E5, rawX, deadX, SB, List.not_mem_nil, ↓reduceIte, ne_eq, reduceCtorEq, Nat.reduceLT, Nat.reduceEqDiff, Nat.reduceAdd, Nat.reduceMul, Nat.reduceLeDiff, Nat.reduceDiv, Nat.reduceMod, Nat.reduceSub, Nat.reduceBEq, List.length_map, rn_len, nts_len, cut_nts, List.length_take, List.length_drop] at hk; subst hk)
    | with_reducible refine vSeq_i ?_
    | with_reducible first | refine vRegion_i (by kernel_rfl) ?_ | refine Kv_i ?_
    | ((with_reducible apply vStrK_i); (focus (rfl; done)))
    | ((with_reducible refine imp_i ?_); intro _)
    | with_reducible first | refine Ks_n ?_ | refine Ks_r ?_ | refine Ks_e ?_ | refine Kl_e ?_ | refine Kx_n ?_ | refine Kl_r ?_ | refine vRet_i ?_ | refine vSkip_i ?_ | refine vExit_i ?_ | refine vBlock_i ?_ | refine Ks_p ?_ | refine Kl_p ?_ | refine blk_p ?_ | exact Kb_p | refine vGoto_i ?_ | refine vLabel_i ?_ | refine Ks_g ?_ | refine Kl_g ?_ | refine blk_g ?_ | refine jmp_g ?_ | refine jmp_n ?_ | refine jmp_r ?_ | refine nog_n ?_ | refine nog_r ?_ | refine blk_n ?_ | refine blk_r ?_ | refine blk_e ?_ | refine blk_o (by decide) ?_ | refine cp_t ?_ | refine cp_f ?_
    | ((with_reducible apply vCond_x); (focus (simp only [lv, E1, E2, E5, ET, T, orc_mv, noO_mv, mvB, orc_bx, noO_bx, bxB, orc_sx, noO_sx, sxB, fwd, fwds, inv, mOk, Int.toNat_natCast, Nat.div_one, Nat.mul_one, Int.reduceToNat, SB, List.not_mem_nil, ↓reduceIte, ne_eq, reduceCtorEq, Nat.reduceLT, Nat.reduceEqDiff, Nat.reduceAdd, Nat.reduceMul, Nat.reduceLeDiff, Nat.reduceDiv, Nat.reduceMod, Nat.reduceSub, Nat.reduceBEq, List.length_map, rn_len, nts_len, cut_nts, List.length_take, List.length_drop]; with_reducible first | exact Eq.refl (bo true) | exact Eq.refl (bo false))))
    | ((with_reducible refine And.intro ?_ ?_); (focus (try omega)))
  all_goals try (exfalso; omega)
  all_goals refine Kf_r ?_
  all_goals simp only [Try.f22, E4, E3, E2, E5, rawX, deadX, ET, T, SB, List.not_mem_nil, ↓reduceIte, ne_eq, reduceCtorEq, Nat.reduceLT, Nat.reduceEqDiff, Nat.reduceAdd, Nat.reduceMul, Nat.reduceLeDiff, Nat.reduceDiv, Nat.reduceMod, Nat.reduceSub, Nat.reduceBEq, List.length_map, rn_len, nts_len, cut_nts, List.length_take, List.length_drop]
  all_goals unfold kindF
  · rename_i h; rw [if_neg (by omega)]
  · rename_i h; rw [if_pos h]
def endsF (l : List Int) (o c : Nat) : Bool := decide (canF (brF (l.getD o 0)).2 = canF (l.getD c 0))
set_option maxRecDepth 10000 in
set_option maxHeartbeats 4000000 in
theorem ends_ok (l : List Int) (o c : Nat) (h1 : o < l.length) (h2 : c < l.length) (hl : l.length ≤ 2000000) : CallOk Try.prog 23 [sl (rn l), i64 o, i64 c] (bo (endsF l o c)) [] true := by
  refine fn_ok' T_ok (orc_ok _) mixed Try.func23 rfl (by kernel_rfl) (lv [[0, 1, 2], [0, 2, 8], [6]]) 25 rfl (by simp) rfl (by simp [X.all, PX.all, TV.rawR, SV.isRaw]) ?_
  simp only [argsG, Nat.zero_add, Nat.reduceAdd]
  repeat' first
    | ((first
        | ((with_reducible refine vR_cons (by decide) ?_); generalize hk : KtR _ _ _ _ _ _ _ _ _ _ = k)
        | ((first
        | with_reducible refine vOps_cons' ?_
        | ((with_reducible apply orc_i); (focus (exact rbracket_ok _; done)))
        | ((with_reducible apply orc_i); (focus (exact canon1_ok _; done)))) <;> generalize hk : Kt _ _ _ _ _ _ _ _ _ = k)) <;> (simp only [Try.f23, lv, E1, E2, E5, ET, T, orc_mv, noO_mv, mvB, orc_bx, noO_bx, bxB, orc_sx, noO_sx, sxB, fwd, fwds, inv, mOk, Int.toNat_natCast, Nat.div_one, Nat.mul_one, Int.reduceToNat, SB, List.not_mem_nil, ↓reduceIte, ne_eq, reduceCtorEq, Nat.reduceLT, Nat.reduceEqDiff, Nat.reduceAdd, Nat.reduceMul, Nat.reduceLeDiff, Nat.reduceDiv, Nat.reduceMod, Nat.reduceSub, Nat.reduceBEq, List.length_map, rn_len, nts_len, cut_nts, List.length_take, List.length_drop]; (try simp (disch := omega) only [wrap_in, Int.toNat_natCast, tv_rn, tv_nts]); subst hk))
    | with_reducible first | refine Kt_p ?_ | refine Kt_i (by kernel_rfl) ?_ | refine Kr_f (by kernel_rfl) ?_
    | (with_reducible refine Kr_t ?_; simp only [List.length_append, List.length_cons, List.length_nil, Nat.reduceAdd, Nat.reduceSub, List.drop_succ_cons, List.drop_zero])
    | with_reducible first | refine vR_nil ?_ | refine KtR_i (by kernel_rfl) ?_ | refine KrR_i (by kernel_rfl) ?_ | refine vR_skip (by decide) ?_
    | ((with_reducible refine vB_i ?_ ?_) <;> intro _ <;> (first | (exfalso; omega) | (exact absurd trivial ‹¬True›) | (try dsimp only [])))
    | ((with_reducible refine vOps_nil' ?_); refine Kr_i (by kernel_rfl) ?_; generalize hk : plain _ _ = G; simp only [lv, E3, E2, E5, rawX, deadX, SB, List.not_mem_nil, ↓reduceIte, ne_eq, reduceCtorEq, Nat.reduceLT, Nat.reduceEqDiff, Nat.reduceAdd, Nat.reduceMul, Nat.reduceLeDiff, Nat.reduceDiv, Nat.reduceMod, Nat.reduceSub, Nat.reduceBEq, List.length_map, rn_len, nts_len, cut_nts, List.length_take, List.length_drop] at hk; subst hk)
    | with_reducible refine vSeq_i ?_
    | with_reducible first | refine vRegion_i (by kernel_rfl) ?_ | refine Kv_i ?_
    | ((with_reducible apply vStrK_i); (focus (rfl; done)))
    | ((with_reducible refine imp_i ?_); intro _)
    | with_reducible first | refine Ks_n ?_ | refine Ks_r ?_ | refine Ks_e ?_ | refine Kl_e ?_ | refine Kx_n ?_ | refine Kl_r ?_ | refine vRet_i ?_ | refine vSkip_i ?_ | refine vExit_i ?_ | refine vBlock_i ?_ | refine Ks_p ?_ | refine Kl_p ?_ | refine blk_p ?_ | exact Kb_p | refine vGoto_i ?_ | refine vLabel_i ?_ | refine Ks_g ?_ | refine Kl_g ?_ | refine blk_g ?_ | refine jmp_g ?_ | refine jmp_n ?_ | refine jmp_r ?_ | refine nog_n ?_ | refine nog_r ?_ | refine blk_n ?_ | refine blk_r ?_ | refine blk_e ?_ | refine blk_o (by decide) ?_ | refine cp_t ?_ | refine cp_f ?_
    | ((with_reducible apply vCond_x); (focus (simp only [lv, E1, E2, E5, ET, T, orc_mv, noO_mv, mvB, orc_bx, noO_bx, bxB, orc_sx, noO_sx, sxB, fwd, fwds, inv, mOk, Int.toNat_natCast, Nat.div_one, Nat.mul_one, Int.reduceToNat, SB, List.not_mem_nil, ↓reduceIte, ne_eq, reduceCtorEq, Nat.reduceLT, Nat.reduceEqDiff, Nat.reduceAdd, Nat.reduceMul, Nat.reduceLeDiff, Nat.reduceDiv, Nat.reduceMod, Nat.reduceSub, Nat.reduceBEq, List.length_map, rn_len, nts_len, cut_nts, List.length_take, List.length_drop]; with_reducible first | exact Eq.refl (bo true) | exact Eq.refl (bo false))))
    | ((with_reducible refine And.intro ?_ ?_); (focus (try omega)))
  all_goals try (exfalso; omega)
  all_goals refine Kf_r ?_
  all_goals simp only [Try.f23, E4, E3, E2, E5, rawX, deadX, ET, T, SB, List.not_mem_nil, ↓reduceIte, ne_eq, reduceCtorEq, Nat.reduceLT, Nat.reduceEqDiff, Nat.reduceAdd, Nat.reduceMul, Nat.reduceLeDiff, Nat.reduceDiv, Nat.reduceMod, Nat.reduceSub, Nat.reduceBEq, List.length_map, rn_len, nts_len, cut_nts, List.length_take, List.length_drop, X.p.injEq, X.tup.injEq, PX.one.injEq, PX.agg.injEq, TV.v.injEq, TV.sr.injEq, SV.raw.injEq, SV.sl.injEq, Value.bool.injEq, Value.int.injEq, List.cons.injEq, Prod.mk.injEq, true_and, and_true, and_self]
  all_goals unfold endsF
  · rename_i q; rw [decide_eq_true q]
  · rename_i q; rw [decide_eq_false q]
end Go.Proofs.YtncabdcaamkhiaaG
