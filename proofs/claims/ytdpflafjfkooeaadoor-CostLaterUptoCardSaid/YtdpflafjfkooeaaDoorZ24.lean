/- YtdpflafjfkooeaaDoorZ24: a part of the proof, joined of its texts. -/
import Derived.Test.YtdpflafjfkooeaaDoorZ23
namespace Go.Proofs.YtdpflafjfkooeaaDoorG
open Go Go.RowKit Go.Proofs Go.Proofs.YtdpflafjfkooeaaDoorG.Dec
set_option linter.unusedSimpArgs false
set_option linter.unusedVariables false
theorem stSm {s : St} (h : s.ok) : s.small := ⟨Nat.le_trans h.len (by omega), fun c hc => (h.undo c hc).small, fun c hc => (h.redo c hc).small, Nat.le_trans h.ulen (by omega), Nat.le_trans h.rlen (by omega)⟩
theorem b_tf : (true == false) = false := rfl
theorem b_ft : (false == true) = false := rfl
def bls (l : List Bool) : List SV := l.map fun b => .raw (.bool b)
theorem bls_len (l : List Bool) : (bls l).length = l.length := by simp [bls]
theorem tv_bls {l : List Bool} {j : Nat} (h : j < l.length) : (List.map TV.v (bls l)).getD j .dead = .v (.raw (.bool (l.getD j false))) := by
  simp [bls, List.getD, List.getElem?_eq_getElem h]
def gN (m x : Int) : Int := (IntKind.u64.wrap x) % m
theorem gN_in (m x : Int) (h : 0 < m) : 0 ≤ gN m x ∧ gN m x < m := ⟨Int.emod_nonneg _ (by omega), Int.emod_lt_of_pos _ h⟩
theorem wrapm (m x : Int) (h : 0 < m ∧ m < 1000) : IntKind.i64.wrap ((IntKind.u64.wrap x).tmod m) = gN m x := by
  have h0 : 0 ≤ IntKind.u64.wrap x := by rw [IntKind.wrap_u64]; omega
  have h1 : (IntKind.u64.wrap x).tmod m = (IntKind.u64.wrap x) % m := Int.tmod_eq_emod_of_nonneg h0
  have := gN_in m x h.1
  unfold gN at *
  rw [h1, wrap_in (by omega) (by omega)]
theorem wrap60 (x : Int) : IntKind.i64.wrap ((IntKind.u64.wrap x).tmod 60) = gN 60 x := wrapm 60 x (by decide)
theorem wrap8 (x : Int) : IntKind.i64.wrap ((IntKind.u64.wrap x).tmod 8) = gN 8 x := wrapm 8 x (by decide)
set_option maxRecDepth 10000 in
set_option maxHeartbeats 4000000 in
theorem geom_ok (a b c : Int) : CallOk Tryd.prog 19 [geo a b c] (geo (1 + gN 60 a) (1 + gN 60 b) (1 + gN 8 c)) [] true := by
  have h1 := gN_in 60 a (by decide)
  have h2 := gN_in 60 b (by decide)
  have h3 := gN_in 8 c (by decide)
  refine fn_ok' T_ok (orc_ok _) mixed Tryd.func19 rfl (by kernel_rfl) (lv [[1, 2], [2]]) 22 rfl (by simp) rfl (by simp [X.all, PX.all, TV.rawR, SV.isRaw]) ?_
  simp only [argsG, Nat.zero_add, Nat.reduceAdd]
  repeat' first
    | ((first
        | ((with_reducible refine vR_cons (by decide) ?_); generalize hk : KtR _ _ _ _ _ _ _ _ _ _ = k)
        | ((first
        | with_reducible refine vOps_cons' ?_) <;> generalize hk : Kt _ _ _ _ _ _ _ _ _ = k)) <;> (simp only [Tryd.f19, lv, E1, E2, E5, ET, T, orc_mv, noO_mv, mvB, orc_bx, noO_bx, bxB, orc_sx, noO_sx, sxB, fwd, fwds, inv, mOk, Int.toNat_natCast, Nat.div_one, Nat.mul_one, Int.reduceToNat, SB, List.not_mem_nil, ↓reduceIte, ne_eq, reduceCtorEq, Nat.reduceLT, Nat.reduceEqDiff, Nat.reduceAdd, Nat.reduceMul, Nat.reduceLeDiff, Nat.reduceDiv, Nat.reduceMod, Nat.reduceSub, Nat.reduceBEq, List.length_map, bs_len, rn_len, ops_len, ops_cnt, Opn.x, St.x, St.rx, Book.x, bkE, bls_len, b_tf, b_ft, wrap60, wrap8]; (try simp (disch := omega) only [wrap_in, Int.toNat_natCast, tv_rn, tv_op0, tv_op1, tv_op2, tv_op3, tv_bls]); subst hk))
    | with_reducible first | refine Kt_p ?_ | refine Kt_i (by kernel_rfl) ?_ | refine Kr_f (by kernel_rfl) ?_
    | (with_reducible refine Kr_t ?_; simp only [List.length_append, List.length_cons, List.length_nil, Nat.reduceAdd, Nat.reduceSub, List.drop_succ_cons, List.drop_zero])
    | with_reducible first | refine vR_nil ?_ | refine KtR_i (by kernel_rfl) ?_ | refine KrR_i (by kernel_rfl) ?_ | refine vR_skip (by decide) ?_
    | ((with_reducible refine vB_i ?_ ?_) <;> intro _ <;> (first | (exfalso; omega) | (exact absurd trivial ‹¬True›) | (try dsimp only [])))
    | ((with_reducible refine vOps_nil' ?_); refine Kr_i (by kernel_rfl) ?_; generalize hk : plain _ _ = G; simp only [lv, E3, E2, E5, rawX, deadX, SB, List.not_mem_nil, ↓reduceIte, ne_eq, reduceCtorEq, Nat.reduceLT, Nat.reduceEqDiff, Nat.reduceAdd, Nat.reduceMul, Nat.reduceLeDiff, Nat.reduceDiv, Nat.reduceMod, Nat.reduceSub, Nat.reduceBEq, List.length_map, bs_len, rn_len, ops_len, ops_cnt, Opn.x, St.x, St.rx, Book.x, bkE, bls_len, b_tf, b_ft, wrap60, wrap8] at hk; subst hk)
    | with_reducible refine vSeq_i ?_
    | with_reducible first | refine vRegion_i (by kernel_rfl) ?_ | refine Kv_i ?_
    | ((with_reducible apply vStrK_i); (focus (rfl; done)))
    | ((with_reducible refine imp_i ?_); intro _)
    | with_reducible first | refine Ks_n ?_ | refine Ks_r ?_ | refine Ks_e ?_ | refine Kl_e ?_ | refine Kx_n ?_ | refine Kl_r ?_ | refine vRet_i ?_ | refine vSkip_i ?_ | refine vExit_i ?_ | refine vBlock_i ?_ | refine Ks_p ?_ | refine Kl_p ?_ | refine blk_p ?_ | exact Kb_p | refine vGoto_i ?_ | refine vLabel_i ?_ | refine Ks_g ?_ | refine Kl_g ?_ | refine blk_g ?_ | refine jmp_g ?_ | refine jmp_n ?_ | refine jmp_r ?_ | refine nog_n ?_ | refine nog_r ?_ | refine blk_n ?_ | refine blk_r ?_ | refine blk_e ?_ | refine blk_o (by decide) ?_ | refine cp_t ?_ | refine cp_f ?_
    | ((with_reducible apply vCond_x); (focus (simp only [lv, E1, E2, E5, ET, T, orc_mv, noO_mv, mvB, orc_bx, noO_bx, bxB, orc_sx, noO_sx, sxB, fwd, fwds, inv, mOk, Int.toNat_natCast, Nat.div_one, Nat.mul_one, Int.reduceToNat, SB, List.not_mem_nil, ↓reduceIte, ne_eq, reduceCtorEq, Nat.reduceLT, Nat.reduceEqDiff, Nat.reduceAdd, Nat.reduceMul, Nat.reduceLeDiff, Nat.reduceDiv, Nat.reduceMod, Nat.reduceSub, Nat.reduceBEq, List.length_map, bs_len, rn_len, ops_len, ops_cnt, Opn.x, St.x, St.rx, Book.x, bkE, bls_len, b_tf, b_ft, wrap60, wrap8]; with_reducible first | exact Eq.refl (bo true) | exact Eq.refl (bo false))))
    | ((with_reducible refine And.intro ?_ ?_); (focus (try omega)))
  all_goals try (exfalso; omega)
  all_goals refine Kf_r ?_
  all_goals simp only [Tryd.f19, E4, E3, E2, E5, rawX, deadX, ET, T, SB, List.not_mem_nil, ↓reduceIte, ne_eq, reduceCtorEq, Nat.reduceLT, Nat.reduceEqDiff, Nat.reduceAdd, Nat.reduceMul, Nat.reduceLeDiff, Nat.reduceDiv, Nat.reduceMod, Nat.reduceSub, Nat.reduceBEq, List.length_map, bs_len, rn_len, ops_len, ops_cnt, Opn.x, St.x, St.rx, Book.x, bkE, bls_len, b_tf, b_ft, wrap60, wrap8]
theorem secF_geom (x y z : Int) : (secF (1 + gN 60 x) (1 + gN 60 y) (1 + gN 8 z)).2 = 0 := by
  have h1 := gN_in 60 x (by decide)
  have h2 := gN_in 60 y (by decide)
  have h3 := gN_in 8 z (by decide)
  rw [sec_ok ⟨⟨by omega, by omega⟩, ⟨by omega, by omega⟩, ⟨by omega, by omega⟩⟩ (by omega)]
/-- All that a next book can be. -/
theorem next_facts {a b c : Int} {k : Book} {o : Opn} (h1 : (secF a b c).2 = 0) (hu : 0 ≤ k.u) (hn : 0 ≤ k.n ∧ k.n < 1000) {nk : Book} {ne : Int} (h : nextF a b c k o = (nk, ne)) {s' : St} {e2 : Int} (hA : appF k.s o = (s', e2)) :
    (e2 ≠ 0 ∧ ne = e2) ∨ (e2 = 0 ∧ (opF o).2 ≠ 0 ∧ ne = (opF o).2) ∨ (e2 = 0 ∧ (opF o).2 = 0 ∧ stC s' > 54 * b ∧ ne = 240) ∨
    (e2 = 0 ∧ (opF o).2 = 0 ∧ stC s' ≤ 54 * b ∧ k.u + opC o > 64 * a ∧ ne = 190) ∨
    (e2 = 0 ∧ (opF o).2 = 0 ∧ stC s' ≤ 54 * b ∧ k.u + opC o ≤ 64 * a ∧ ne = 0 ∧ nk = ⟨s', k.n + 1, k.u + opC o⟩) := by
  have h4 : cntF k.n = 0 := by unfold cntF; rw [if_neg (by omega)]
  unfold nextF at h
  rw [if_neg (fun q => q h1), hA, h4] at h
  simp only [] at h
  split at h
  · rename_i q; cases h; exact .inl ⟨q, rfl⟩
  rename_i q2
  have q2 := Decidable.not_not.1 q2
  split at h
  · rename_i q; cases h; exact .inr (.inl ⟨q2, q, rfl⟩)
  rename_i q3
  have q3 := Decidable.not_not.1 q3
  rw [if_neg (by simp)] at h
  split at h
  · rename_i q; cases h; exact .inr (.inr (.inl ⟨q2, q3, q, rfl⟩))
  rename_i q4
  split at h
  · rename_i q; cases h; exact .inr (.inr (.inr (.inl ⟨q2, q3, by omega, by omega, rfl⟩)))
  rename_i q5
  cases h
  exact .inr (.inr (.inr (.inr ⟨q2, q3, by omega, by omega, rfl, rfl⟩)))
theorem saved_is {a b c : Int} {k : Book} (h1 : (secF a b c).2 = 0) (hr : rightF k.s = 0) (hs : stC k.s ≤ 54 * b) : savedF a b c k = (⟨k.s, k.n, 0⟩, 0) := by
  unfold savedF; rw [if_neg (fun q => q h1), if_neg (fun q => q hr), if_neg (by omega)]
structure SumI (a b : Int) (l : List Opn) (z : Nat × Book) : Prop where
  le : z.1 ≤ l.length
  m : z.1 ≤ 60
  ok : z.2.s.ok
  r : rightF z.2.s = 0
  u : 0 ≤ z.2.u ∧ z.2.u ≤ 64 * a
  n : 0 ≤ z.2.n ∧ z.2.n ≤ z.1
  st : stC z.2.s ≤ 54 * b
theorem mem6 {l : List Opn} {k : Nat} (h : k < l.length) : l.getD k noOp ∈ l := by simp [List.getD, List.getElem?_eq_getElem h]
set_option maxRecDepth 10000 in
set_option maxHeartbeats 16000000 in
theorem sums_law (a0 b0 c0 : Int) (l : List Opn) (sv : List Bool) (hl : l.length ≤ 2000000) (h : ∀ o ∈ l, R32s o.text) (h2 : ∀ o ∈ l, o.text.length ≤ 2000000) (hsv : sv.length ≤ 2000000) : CallOk Tryd.prog 5 [geo a0 b0 c0, sln 4 (ops l), sl (bls sv)] (bo true) [] true := by
  have w := works24_ok
  have g := geom_ok a0 b0 c0
  have hsec := secF_geom a0 b0 c0
  have g1 := gN_in 60 a0 (by decide)
  have g2 := gN_in 60 b0 (by decide)
  have g3 := gN_in 8 c0 (by decide)
  generalize 1 + gN 60 a0 = a at *
  generalize 1 + gN 60 b0 = b at *
  generalize 1 + gN 8 c0 = c at *
  have hab := secF_in hsec
  have q1 := rooms_ok a b c
  rw [if_pos hsec, if_pos hsec, hsec] at q1
  refine fn_ok' T_ok (orc_ok _) mixed Tryd.func5 rfl (by kernel_rfl) (lv [[1, 2, 3], [1, 2, 3, 27], [6], [1, 2, 3], [1, 2, 3, 7, 8, 9], [1, 2, 3, 7, 8, 37], [6], [1, 2, 3, 7, 8, 10, 1000010], [1, 2, 3, 7, 8, 10, 11, 12], [1, 2, 3, 7, 8, 10, 11, 12, 13], [1, 2, 3, 7, 8, 10, 11, 12, 13, 46], [1, 2, 3, 7, 8, 10, 11, 12, 13], [1, 2, 3, 7, 8, 10, 11, 12, 13, 55], [6], [1, 2, 3, 7, 8, 10, 11, 12, 13, 65], [1, 2, 3, 7, 8, 10, 12, 13, 14, 15], [1, 2, 3, 7, 8, 10, 12, 13, 14, 93], [6], [1, 2, 3, 7, 8, 10, 11, 12, 13], [1, 2, 3, 7, 8, 10, 11, 12, 13, 16, 17], [1, 2, 3, 7, 8, 10, 11, 12, 13, 16, 17, 18, 19], [1, 2, 3, 7, 8, 10, 11, 12, 13, 16, 17, 18, 19, 20, 21], [1, 2, 3, 7, 8, 10, 11, 12, 13, 16, 20, 21, 22, 23], [1, 2, 3, 7, 8, 10, 11, 12, 13, 16, 20, 21, 152], [6], [1, 2, 3, 7, 8, 10, 11, 12, 13, 16, 17, 18, 19, 20, 21, 153], [1, 2, 3, 7, 8, 10, 11, 12, 13, 16, 20, 21, 158], [6], [1, 2, 3, 7, 8, 10, 11, 12, 13, 16, 17, 18, 20, 21, 159], [1, 2, 3, 7, 8, 10, 11, 12, 13, 16, 20, 21, 164], [6], [1, 2, 3, 7, 8, 10, 11, 12, 13, 16, 20, 166], [1, 2, 3, 7, 8, 10, 11, 12, 13, 16], [1, 2, 3, 7, 8, 10, 11, 12, 13], [1, 2, 3, 7, 8, 10, 11, 12, 13], [1, 2, 3, 7, 8, 10, 11, 12, 13, 187], [6], [8, 24, 25], [6]]) 201 rfl (by simp) rfl (by simp [X.all, PX.all, TV.rawR, SV.isRaw]) ?_
  simp only [argsG, Nat.zero_add, Nat.reduceAdd]
  repeat' first
    | ((first
        | ((with_reducible refine vR_cons (by decide) ?_); generalize hk : KtR _ _ _ _ _ _ _ _ _ _ = k)
        | ((first
        | with_reducible refine vOps_cons' ?_
        | ((with_reducible apply orc_i); (focus (exact w; done)))
        | ((with_reducible apply orc_i); (focus (exact g; done)))
        | ((with_reducible apply orc_i); (focus (exact q1; done)))) <;> generalize hk : Kt _ _ _ _ _ _ _ _ _ = k)) <;> (simp only [Tryd.f5, lv, E1, E2, E5, ET, T, orc_mv, noO_mv, mvB, orc_bx, noO_bx, bxB, orc_sx, noO_sx, sxB, fwd, fwds, inv, mOk, Int.toNat_natCast, Nat.div_one, Nat.mul_one, Int.reduceToNat, SB, List.not_mem_nil, ↓reduceIte, ne_eq, reduceCtorEq, Nat.reduceLT, Nat.reduceEqDiff, Nat.reduceAdd, Nat.reduceMul, Nat.reduceLeDiff, Nat.reduceDiv, Nat.reduceMod, Nat.reduceSub, Nat.reduceBEq, List.length_map, bs_len, rn_len, ops_len, ops_cnt, Opn.x, St.x, St.rx, Book.x, bkE, bls_len, b_tf, b_ft, wrap60, wrap8]; (try simp (disch := omega) only [wrap_in, Int.toNat_natCast, tv_rn, tv_op0, tv_op1, tv_op2, tv_op3, tv_bls]); subst hk))
    | with_reducible first | refine Kt_p ?_ | refine Kt_i (by kernel_rfl) ?_ | refine Kr_f (by kernel_rfl) ?_
    | (with_reducible refine Kr_t ?_; simp only [List.length_append, List.length_cons, List.length_nil, Nat.reduceAdd, Nat.reduceSub, List.drop_succ_cons, List.drop_zero])
    | with_reducible first | refine vR_nil ?_ | refine KtR_i (by kernel_rfl) ?_ | refine KrR_i (by kernel_rfl) ?_ | refine vR_skip (by decide) ?_
    | ((with_reducible refine vB_i ?_ ?_) <;> intro _ <;> (first | (exfalso; omega) | (exact absurd trivial ‹¬True›) | (try dsimp only [])))
    | ((with_reducible refine vOps_nil' ?_); refine Kr_i (by kernel_rfl) ?_; generalize hk : plain _ _ = G; simp only [lv, E3, E2, E5, rawX, deadX, SB, List.not_mem_nil, ↓reduceIte, ne_eq, reduceCtorEq, Nat.reduceLT, Nat.reduceEqDiff, Nat.reduceAdd, Nat.reduceMul, Nat.reduceLeDiff, Nat.reduceDiv, Nat.reduceMod, Nat.reduceSub, Nat.reduceBEq, List.length_map, bs_len, rn_len, ops_len, ops_cnt, Opn.x, St.x, St.rx, Book.x, bkE, bls_len, b_tf, b_ft, wrap60, wrap8] at hk; subst hk)
    | with_reducible refine vSeq_i ?_
    | with_reducible first | refine vRegion_i (by kernel_rfl) ?_ | refine Kv_i ?_
    | ((with_reducible apply vStrK_i); (focus (rfl; done)))
    | ((with_reducible refine imp_i ?_); intro _)
    | with_reducible first | refine Ks_n ?_ | refine Ks_r ?_ | refine Ks_e ?_ | refine Kl_e ?_ | refine Kx_n ?_ | refine Kl_r ?_ | refine vRet_i ?_ | refine vSkip_i ?_ | refine vExit_i ?_ | refine vBlock_i ?_ | refine Ks_p ?_ | refine Kl_p ?_ | refine blk_p ?_ | exact Kb_p | refine vGoto_i ?_ | refine vLabel_i ?_ | refine Ks_g ?_ | refine Kl_g ?_ | refine blk_g ?_ | refine jmp_g ?_ | refine jmp_n ?_ | refine jmp_r ?_ | refine nog_n ?_ | refine nog_r ?_ | refine blk_n ?_ | refine blk_r ?_ | refine blk_e ?_ | refine blk_o (by decide) ?_ | refine cp_t ?_ | refine cp_f ?_
    | ((with_reducible apply vCond_x); (focus (simp only [lv, E1, E2, E5, ET, T, orc_mv, noO_mv, mvB, orc_bx, noO_bx, bxB, orc_sx, noO_sx, sxB, fwd, fwds, inv, mOk, Int.toNat_natCast, Nat.div_one, Nat.mul_one, Int.reduceToNat, SB, List.not_mem_nil, ↓reduceIte, ne_eq, reduceCtorEq, Nat.reduceLT, Nat.reduceEqDiff, Nat.reduceAdd, Nat.reduceMul, Nat.reduceLeDiff, Nat.reduceDiv, Nat.reduceMod, Nat.reduceSub, Nat.reduceBEq, List.length_map, bs_len, rn_len, ops_len, ops_cnt, Opn.x, St.x, St.rx, Book.x, bkE, bls_len, b_tf, b_ft, wrap60, wrap8]; with_reducible first | exact Eq.refl (bo true) | exact Eq.refl (bo false))))
    | ((with_reducible refine And.intro ?_ ?_); (focus (try omega)))
  all_goals try (exfalso; omega)
  refine vLoop_s (fun z : Nat × Book => [(.t 1, .t (sln 4 (ops l))), (.t 2, .t (sl (bls sv))), (.t 3, .t (.p (.one (.pr 0 0)))), (.t 7, .t (i64 (64 * a))), (.t 8, .t (i64 (54 * b))), (.t 10, .t (.p (.one (.pr 1 0)))), (.t 11, .t (i64 z.2.u)), (.t 12, .t (i64 z.2.n)), (.t 13, .t (i64 z.1)),
      (.box 0, .box 23 [.v (.raw (.int .i64 a)), .v (.raw (.int .i64 b)), .v (.raw (.int .i64 c))]), (.box 1, .box 56 [.v (.sl 1 (rn z.2.s.text)), .v (.sl 3 (chs z.2.s.undo)), .v (.sl 3 (chs z.2.s.redo)), .v (.raw (.int .i64 z.2.n)), .v (.raw (.int .i64 z.2.u))])])
    (SumI a b l) (fun z => l.length - z.1) (0, bk0) ⟨Nat.zero_le _, Nat.zero_le _, okN, by decide, ⟨by decide, by show (0 : Int) ≤ 64 * a; omega⟩, ⟨by decide, by decide⟩, by show stC noSt ≤ _; rw [stN.1]; omega⟩ rfl ?_
  rintro ⟨i, k⟩ hI
  obtain ⟨hle, hm, hok, hr, hu, hn, hst⟩ := hI
  simp only [] at hle hm hok hr hu hn hst
  by_cases hin : i < l.length ∧ i < 60
  · obtain ⟨hi1, hi2⟩ := hin
    have hoR := h _ (mem6 hi1)
    have hoL := h2 _ (mem6 hi1)
    by_cases htx : (l.getD i noOp).text.length > 300
    · skip
      repeat' first
        | ((first
            | ((with_reducible refine vR_cons (by decide) ?_); generalize hk : KtR _ _ _ _ _ _ _ _ _ _ = k)
            | ((first
            | with_reducible refine vOps_cons' ?_) <;> generalize hk : Kt _ _ _ _ _ _ _ _ _ = k)) <;> (simp only [Tryd.f5, lv, E1, E2, E5, ET, T, orc_mv, noO_mv, mvB, orc_bx, noO_bx, bxB, orc_sx, noO_sx, sxB, fwd, fwds, inv, mOk, Int.toNat_natCast, Nat.div_one, Nat.mul_one, Int.reduceToNat, SB, List.not_mem_nil, ↓reduceIte, ne_eq, reduceCtorEq, Nat.reduceLT, Nat.reduceEqDiff, Nat.reduceAdd, Nat.reduceMul, Nat.reduceLeDiff, Nat.reduceDiv, Nat.reduceMod, Nat.reduceSub, Nat.reduceBEq, List.length_map, bs_len, rn_len, ops_len, ops_cnt, Opn.x, St.x, St.rx, Book.x, bkE, bls_len, b_tf, b_ft, wrap60, wrap8]; (try simp (disch := omega) only [wrap_in, Int.toNat_natCast, tv_rn, tv_op0, tv_op1, tv_op2, tv_op3, tv_bls]); subst hk))
        | with_reducible first | refine Kt_p ?_ | refine Kt_i (by kernel_rfl) ?_ | refine Kr_f (by kernel_rfl) ?_
        | (with_reducible refine Kr_t ?_; simp only [List.length_append, List.length_cons, List.length_nil, Nat.reduceAdd, Nat.reduceSub, List.drop_succ_cons, List.drop_zero])
        | with_reducible first | refine vR_nil ?_ | refine KtR_i (by kernel_rfl) ?_ | refine KrR_i (by kernel_rfl) ?_ | refine vR_skip (by decide) ?_
        | ((with_reducible refine vB_i ?_ ?_) <;> intro _ <;> (first | (exfalso; omega) | (exact absurd trivial ‹¬True›) | (try dsimp only [])))
        | ((with_reducible refine vOps_nil' ?_); refine Kr_i (by kernel_rfl) ?_; generalize hk : plain _ _ = G; simp only [lv, E3, E2, E5, rawX, deadX, SB, List.not_mem_nil, ↓reduceIte, ne_eq, reduceCtorEq, Nat.reduceLT, Nat.reduceEqDiff, Nat.reduceAdd, Nat.reduceMul, Nat.reduceLeDiff, Nat.reduceDiv, Nat.reduceMod, Nat.reduceSub, Nat.reduceBEq, List.length_map, bs_len, rn_len, ops_len, ops_cnt, Opn.x, St.x, St.rx, Book.x, bkE, bls_len, b_tf, b_ft, wrap60, wrap8] at hk; subst hk)
        | with_reducible refine vSeq_i ?_
        | with_reducible first | refine vRegion_i (by kernel_rfl) ?_ | refine Kv_i ?_
        | ((with_reducible apply vStrK_i); (focus (rfl; done)))
        | ((with_reducible refine imp_i ?_); intro _)
        | with_reducible first | refine Ks_n ?_ | refine Ks_r ?_ | refine Ks_e ?_ | refine Kl_e ?_ | refine Kx_n ?_ | refine Kl_r ?_ | refine vRet_i ?_ | refine vSkip_i ?_ | refine vExit_i ?_ | refine vBlock_i ?_ | refine Ks_p ?_ | refine Kl_p ?_ | refine blk_p ?_ | exact Kb_p | refine vGoto_i ?_ | refine vLabel_i ?_ | refine Ks_g ?_ | refine Kl_g ?_ | refine blk_g ?_ | refine jmp_g ?_ | refine jmp_n ?_ | refine jmp_r ?_ | refine nog_n ?_ | refine nog_r ?_ | refine blk_n ?_ | refine blk_r ?_ | refine blk_e ?_ | refine blk_o (by decide) ?_ | refine cp_t ?_ | refine cp_f ?_
        | ((with_reducible apply vCond_x); (focus (simp only [lv, E1, E2, E5, ET, T, orc_mv, noO_mv, mvB, orc_bx, noO_bx, bxB, orc_sx, noO_sx, sxB, fwd, fwds, inv, mOk, Int.toNat_natCast, Nat.div_one, Nat.mul_one, Int.reduceToNat, SB, List.not_mem_nil, ↓reduceIte, ne_eq, reduceCtorEq, Nat.reduceLT, Nat.reduceEqDiff, Nat.reduceAdd, Nat.reduceMul, Nat.reduceLeDiff, Nat.reduceDiv, Nat.reduceMod, Nat.reduceSub, Nat.reduceBEq, List.length_map, bs_len, rn_len, ops_len, ops_cnt, Opn.x, St.x, St.rx, Book.x, bkE, bls_len, b_tf, b_ft, wrap60, wrap8]; with_reducible first | exact Eq.refl (bo true) | exact Eq.refl (bo false))))
        | ((with_reducible refine And.intro ?_ ?_); (focus (try omega)))
      all_goals try (exfalso; omega)
      all_goals refine Kf_r ?_
      all_goals simp only [Tryd.f5, E4, E3, E2, E5, rawX, deadX, ET, T, SB, List.not_mem_nil, ↓reduceIte, ne_eq, reduceCtorEq, Nat.reduceLT, Nat.reduceEqDiff, Nat.reduceAdd, Nat.reduceMul, Nat.reduceLeDiff, Nat.reduceDiv, Nat.reduceMod, Nat.reduceSub, Nat.reduceBEq, List.length_map, bs_len, rn_len, ops_len, ops_cnt, Opn.x, St.x, St.rx, Book.x, bkE, bls_len, b_tf, b_ft, wrap60, wrap8]
    have hoo : (l.getD i noOp).ok := ⟨by omega, hoR⟩
    have p1 := costOp_ok (l.getD i noOp) hoR hoL
    have p2 := sameSt_ok k.s k.s (stSm hok) (stSm hok)
    rw [decide_eq_true rfl] at p2
    have p3 := saved_ok a b c k hok
    rw [saved_is hsec hr hst] at p3
    have p4 := apply_ok goes_ok k.s (l.getD i noOp) hok hoo
    rcases hA : appF k.s (l.getD i noOp) with ⟨s', e2⟩
    rw [hA] at p4
    have hs'ok : e2 = 0 → s'.ok := fun q => by have := app_ok hok hoo (by rw [hA]; exact q); rwa [hA] at this
    have hs'r : e2 = 0 → rightF s' = 0 := fun q => by have := right_app hok hoo (by rw [hA]; exact q); rwa [hA] at this
    have p5 : e2 = 0 → CallOk Tryd.prog 14 [s'.x] (.tup [.one (.v (.raw (.int .i64 (stC s')))), .one (.v (.raw (.int .i64 0)))]) [] true := fun q => by
      have := costState_ok s' (hs'ok q); rwa [st_err, hs'r q] at this
    by_cases hlen : i < sv.length
    · cases hb : sv.getD i false with
      | true =>
        rcases hN : nextF a b c ⟨k.s, k.n, 0⟩ (l.getD i noOp) with ⟨nk, ne⟩
        have p7 := nextB_ok a b c ⟨k.s, k.n, 0⟩ (l.getD i noOp) hok hoo (by show (0 : Int) ≤ _; omega)
        rw [hN] at p7
        have hF := next_facts hsec (by show 0 ≤ (0 : Int); omega) (by show 0 ≤ k.n ∧ k.n < 1000; omega) hN hA
        try simp only [] at hF
        have hnk : ne = 0 → nk = ⟨s', k.n + 1, (0 : Int) + opC (l.getD i noOp)⟩ := fun q => by
          rcases hF with hf | hf | hf | hf | hf
          · omega
          · omega
          · omega
          · omega
          · exact hf.2.2.2.2.2
        have hnu : ne = 0 → nk.u = (0 : Int) + opC (l.getD i noOp) ∧ nk.n = k.n + 1 := fun q => by rw [hnk q]; exact ⟨rfl, rfl⟩
        have hS : ne = 0 → s'.ok ∧ rightF s' = 0 ∧ stC s' ≤ 54 * b ∧ (0 : Int) + opC (l.getD i noOp) ≤ 64 * a := fun q => by
          rcases hF with hf | hf | hf | hf | hf
          · omega
          · omega
          · omega
          · omega
          · exact ⟨hs'ok hf.1, hs'r hf.1, hf.2.2.1, hf.2.2.2.1⟩
        have hoc := opC_in (l.getD i noOp)
        simp only [Book.x, bkE] at p3 p7
        repeat' first
          | ((first
              | ((with_reducible refine vR_cons (by decide) ?_); generalize hk : KtR _ _ _ _ _ _ _ _ _ _ = k)
              | ((first
              | with_reducible refine vOps_cons' ?_) <;> generalize hk : Kt _ _ _ _ _ _ _ _ _ = k)) <;> (simp only [Tryd.f5, lv, E1, E2, E5, ET, T, orc_mv, noO_mv, mvB, orc_bx, noO_bx, bxB, orc_sx, noO_sx, sxB, fwd, fwds, inv, mOk, Int.toNat_natCast, Nat.div_one, Nat.mul_one, Int.reduceToNat, SB, List.not_mem_nil, ↓reduceIte, ne_eq, reduceCtorEq, Nat.reduceLT, Nat.reduceEqDiff, Nat.reduceAdd, Nat.reduceMul, Nat.reduceLeDiff, Nat.reduceDiv, Nat.reduceMod, Nat.reduceSub, Nat.reduceBEq, List.length_map, bs_len, rn_len, ops_len, ops_cnt, Opn.x, St.x, St.rx, Book.x, bkE, bls_len, b_tf, b_ft, wrap60, wrap8]; (try simp (disch := omega) only [wrap_in, Int.toNat_natCast, tv_rn, tv_op0, tv_op1, tv_op2, tv_op3, tv_bls]); subst hk))
          | with_reducible first | refine Kt_p ?_ | refine Kt_i (by kernel_rfl) ?_ | refine Kr_f (by kernel_rfl) ?_
          | (with_reducible refine Kr_t ?_; simp only [List.length_append, List.length_cons, List.length_nil, Nat.reduceAdd, Nat.reduceSub, List.drop_succ_cons, List.drop_zero])
          | with_reducible first | refine vR_nil ?_ | refine KtR_i (by kernel_rfl) ?_ | refine KrR_i (by kernel_rfl) ?_ | refine vR_skip (by decide) ?_
          | ((with_reducible refine vB_i ?_ ?_) <;> intro _ <;> (first | (exfalso; omega) | (exact absurd trivial ‹¬True›) | (try dsimp only [])))
          | ((with_reducible refine vOps_nil' ?_); refine Kr_i (by kernel_rfl) ?_; generalize hk : plain _ _ = G; simp only [lv, E3, E2, E5, rawX, deadX, SB, List.not_mem_nil, ↓reduceIte, ne_eq, reduceCtorEq, Nat.reduceLT, Nat.reduceEqDiff, Nat.reduceAdd, Nat.reduceMul, Nat.reduceLeDiff, Nat.reduceDiv, Nat.reduceMod, Nat.reduceSub, Nat.reduceBEq, List.length_map, bs_len, rn_len, ops_len, ops_cnt, Opn.x, St.x, St.rx, Book.x, bkE, bls_len, b_tf, b_ft, wrap60, wrap8] at hk; subst hk)
          | with_reducible refine vSeq_i ?_
          | with_reducible first | refine vRegion_i (by kernel_rfl) ?_ | refine Kv_i ?_
          | ((with_reducible apply vStrK_i); (focus (rfl; done)))
          | ((with_reducible refine imp_i ?_); intro _)
          | with_reducible first | refine Ks_n ?_ | refine Ks_r ?_ | refine Ks_e ?_ | refine Kl_e ?_ | refine Kx_n ?_ | refine Kl_r ?_ | refine vRet_i ?_ | refine vSkip_i ?_ | refine vExit_i ?_ | refine vBlock_i ?_ | refine Ks_p ?_ | refine Kl_p ?_ | refine blk_p ?_ | exact Kb_p | refine vGoto_i ?_ | refine vLabel_i ?_ | refine Ks_g ?_ | refine Kl_g ?_ | refine blk_g ?_ | refine jmp_g ?_ | refine jmp_n ?_ | refine jmp_r ?_ | refine nog_n ?_ | refine nog_r ?_ | refine blk_n ?_ | refine blk_r ?_ | refine blk_e ?_ | refine blk_o (by decide) ?_ | refine cp_t ?_ | refine cp_f ?_
          | ((with_reducible apply vCond_x); (focus (simp only [lv, E1, E2, E5, ET, T, orc_mv, noO_mv, mvB, orc_bx, noO_bx, bxB, orc_sx, noO_sx, sxB, fwd, fwds, inv, mOk, Int.toNat_natCast, Nat.div_one, Nat.mul_one, Int.reduceToNat, SB, List.not_mem_nil, ↓reduceIte, ne_eq, reduceCtorEq, Nat.reduceLT, Nat.reduceEqDiff, Nat.reduceAdd, Nat.reduceMul, Nat.reduceLeDiff, Nat.reduceDiv, Nat.reduceMod, Nat.reduceSub, Nat.reduceBEq, List.length_map, bs_len, rn_len, ops_len, ops_cnt, Opn.x, St.x, St.rx, Book.x, bkE, bls_len, b_tf, b_ft, wrap60, wrap8]; with_reducible first | exact Eq.refl (bo true) | exact Eq.refl (bo false))))
          | ((with_reducible refine And.intro ?_ ?_); (focus (try omega)))
        all_goals try (exfalso; omega)
        try simp only [hb]
        repeat' first
          | ((first
              | ((with_reducible refine vR_cons (by decide) ?_); generalize hk : KtR _ _ _ _ _ _ _ _ _ _ = k)
              | ((first
              | with_reducible refine vOps_cons' ?_
              | ((with_reducible apply orc_i); (focus (exact p1; done)))
              | ((with_reducible apply orc_i); (focus (exact p2; done)))
              | ((with_reducible apply orc_i); (focus (exact p3; done)))
              | ((with_reducible apply orc_i); (focus (exact p4; done)))
              | ((with_reducible apply orc_i); (focus (exact p7; done)))
              | ((with_reducible apply orc_i); (focus (exact p5 (by assumption); done)))) <;> generalize hk : Kt _ _ _ _ _ _ _ _ _ = k)) <;> (simp only [Tryd.f5, lv, E1, E2, E5, ET, T, orc_mv, noO_mv, mvB, orc_bx, noO_bx, bxB, orc_sx, noO_sx, sxB, fwd, fwds, inv, mOk, Int.toNat_natCast, Nat.div_one, Nat.mul_one, Int.reduceToNat, SB, List.not_mem_nil, ↓reduceIte, ne_eq, reduceCtorEq, Nat.reduceLT, Nat.reduceEqDiff, Nat.reduceAdd, Nat.reduceMul, Nat.reduceLeDiff, Nat.reduceDiv, Nat.reduceMod, Nat.reduceSub, Nat.reduceBEq, List.length_map, bs_len, rn_len, ops_len, ops_cnt, Opn.x, St.x, St.rx, Book.x, bkE, bls_len, b_tf, b_ft, wrap60, wrap8]; (try simp (disch := omega) only [wrap_in, Int.toNat_natCast, tv_rn, tv_op0, tv_op1, tv_op2, tv_op3, tv_bls]); subst hk))
          | with_reducible first | refine Kt_p ?_ | refine Kt_i (by kernel_rfl) ?_ | refine Kr_f (by kernel_rfl) ?_
          | (with_reducible refine Kr_t ?_; simp only [List.length_append, List.length_cons, List.length_nil, Nat.reduceAdd, Nat.reduceSub, List.drop_succ_cons, List.drop_zero])
          | with_reducible first | refine vR_nil ?_ | refine KtR_i (by kernel_rfl) ?_ | refine KrR_i (by kernel_rfl) ?_ | refine vR_skip (by decide) ?_
          | ((with_reducible refine vB_i ?_ ?_) <;> intro _ <;> (first | (exfalso; omega) | (exact absurd trivial ‹¬True›) | (try dsimp only [])))
          | ((with_reducible refine vOps_nil' ?_); refine Kr_i (by kernel_rfl) ?_; generalize hk : plain _ _ = G; simp only [lv, E3, E2, E5, rawX, deadX, SB, List.not_mem_nil, ↓reduceIte, ne_eq, reduceCtorEq, Nat.reduceLT, Nat.reduceEqDiff, Nat.reduceAdd, Nat.reduceMul, Nat.reduceLeDiff, Nat.reduceDiv, Nat.reduceMod, Nat.reduceSub, Nat.reduceBEq, List.length_map, bs_len, rn_len, ops_len, ops_cnt, Opn.x, St.x, St.rx, Book.x, bkE, bls_len, b_tf, b_ft, wrap60, wrap8] at hk; subst hk)
          | with_reducible refine vSeq_i ?_
          | with_reducible first | refine vRegion_i (by kernel_rfl) ?_ | refine Kv_i ?_
          | ((with_reducible apply vStrK_i); (focus (rfl; done)))
          | ((with_reducible refine imp_i ?_); intro _)
          | with_reducible first | refine Ks_n ?_ | refine Ks_r ?_ | refine Ks_e ?_ | refine Kl_e ?_ | refine Kx_n ?_ | refine Kl_r ?_ | refine vRet_i ?_ | refine vSkip_i ?_ | refine vExit_i ?_ | refine vBlock_i ?_ | refine Ks_p ?_ | refine Kl_p ?_ | refine blk_p ?_ | exact Kb_p | refine vGoto_i ?_ | refine vLabel_i ?_ | refine Ks_g ?_ | refine Kl_g ?_ | refine blk_g ?_ | refine jmp_g ?_ | refine jmp_n ?_ | refine jmp_r ?_ | refine nog_n ?_ | refine nog_r ?_ | refine blk_n ?_ | refine blk_r ?_ | refine blk_e ?_ | refine blk_o (by decide) ?_ | refine cp_t ?_ | refine cp_f ?_
          | ((with_reducible apply vCond_x); (focus (simp only [lv, E1, E2, E5, ET, T, orc_mv, noO_mv, mvB, orc_bx, noO_bx, bxB, orc_sx, noO_sx, sxB, fwd, fwds, inv, mOk, Int.toNat_natCast, Nat.div_one, Nat.mul_one, Int.reduceToNat, SB, List.not_mem_nil, ↓reduceIte, ne_eq, reduceCtorEq, Nat.reduceLT, Nat.reduceEqDiff, Nat.reduceAdd, Nat.reduceMul, Nat.reduceLeDiff, Nat.reduceDiv, Nat.reduceMod, Nat.reduceSub, Nat.reduceBEq, List.length_map, bs_len, rn_len, ops_len, ops_cnt, Opn.x, St.x, St.rx, Book.x, bkE, bls_len, b_tf, b_ft, wrap60, wrap8]; with_reducible first | exact Eq.refl (bo true) | exact Eq.refl (bo false))))
          | ((with_reducible refine And.intro ?_ ?_); (focus (try omega)))
        all_goals try (exfalso; omega)
        all_goals first
          | (refine Kf_r ?_; simp only [Tryd.f5, E4, E3, E2, E5, rawX, deadX, ET, T, SB, List.not_mem_nil, ↓reduceIte, ne_eq, reduceCtorEq, Nat.reduceLT, Nat.reduceEqDiff, Nat.reduceAdd, Nat.reduceMul, Nat.reduceLeDiff, Nat.reduceDiv, Nat.reduceMod, Nat.reduceSub, Nat.reduceBEq, List.length_map, bs_len, rn_len, ops_len, ops_cnt, Opn.x, St.x, St.rx, Book.x, bkE, bls_len, b_tf, b_ft, wrap60, wrap8]; done)
          | (rename_i q
             refine Kl_n ⟨(i + 1, ⟨k.s, k.n, 0⟩), ⟨by show i + 1 ≤ l.length; omega, by show i + 1 ≤ 60; omega, hok, hr, by show 0 ≤ (0 : Int) ∧ (0 : Int) ≤ 64 * a; omega, by show 0 ≤ k.n ∧ k.n ≤ ((i + 1 : Nat) : Int); omega, hst⟩, by show l.length - (i + 1) < l.length - i; omega, ?_⟩
             simp only [Int.natCast_add, Int.natCast_one]
             done)
          | (have q : ne = 0 := by assumption
             obtain ⟨z1, z2, z3, z4⟩ := hS q
             obtain rfl := hnk q
             refine Kl_n ⟨(i + 1, ⟨s', k.n + 1, (0 : Int) + opC (l.getD i noOp)⟩), ⟨by show i + 1 ≤ l.length; omega, by show i + 1 ≤ 60; omega, z1, z2, by show 0 ≤ (0 : Int) + opC (l.getD i noOp) ∧ (0 : Int) + opC (l.getD i noOp) ≤ 64 * a; omega, by show 0 ≤ k.n + 1 ∧ k.n + 1 ≤ ((i + 1 : Nat) : Int); omega, z3⟩, by show l.length - (i + 1) < l.length - i; omega, ?_⟩
             simp only [Int.natCast_add, Int.natCast_one]
             done)
          | trace_state
      | false =>
        rcases hN : nextF a b c k (l.getD i noOp) with ⟨nk, ne⟩
        have p7 := nextB_ok a b c k (l.getD i noOp) hok hoo (by show k.u ≤ _; omega)
        rw [hN] at p7
        have hF := next_facts hsec (by show 0 ≤ k.u; omega) (by show 0 ≤ k.n ∧ k.n < 1000; omega) hN hA
        try simp only [] at hF
        have hnk : ne = 0 → nk = ⟨s', k.n + 1, k.u + opC (l.getD i noOp)⟩ := fun q => by
          rcases hF with hf | hf | hf | hf | hf
          · omega
          · omega
          · omega
          · omega
          · exact hf.2.2.2.2.2
        have hnu : ne = 0 → nk.u = k.u + opC (l.getD i noOp) ∧ nk.n = k.n + 1 := fun q => by rw [hnk q]; exact ⟨rfl, rfl⟩
        have hS : ne = 0 → s'.ok ∧ rightF s' = 0 ∧ stC s' ≤ 54 * b ∧ k.u + opC (l.getD i noOp) ≤ 64 * a := fun q => by
          rcases hF with hf | hf | hf | hf | hf
          · omega
          · omega
          · omega
          · omega
          · exact ⟨hs'ok hf.1, hs'r hf.1, hf.2.2.1, hf.2.2.2.1⟩
        have hoc := opC_in (l.getD i noOp)
        simp only [Book.x, bkE] at p3 p7
        repeat' first
          | ((first
              | ((with_reducible refine vR_cons (by decide) ?_); generalize hk : KtR _ _ _ _ _ _ _ _ _ _ = k)
              | ((first
              | with_reducible refine vOps_cons' ?_) <;> generalize hk : Kt _ _ _ _ _ _ _ _ _ = k)) <;> (simp only [Tryd.f5, lv, E1, E2, E5, ET, T, orc_mv, noO_mv, mvB, orc_bx, noO_bx, bxB, orc_sx, noO_sx, sxB, fwd, fwds, inv, mOk, Int.toNat_natCast, Nat.div_one, Nat.mul_one, Int.reduceToNat, SB, List.not_mem_nil, ↓reduceIte, ne_eq, reduceCtorEq, Nat.reduceLT, Nat.reduceEqDiff, Nat.reduceAdd, Nat.reduceMul, Nat.reduceLeDiff, Nat.reduceDiv, Nat.reduceMod, Nat.reduceSub, Nat.reduceBEq, List.length_map, bs_len, rn_len, ops_len, ops_cnt, Opn.x, St.x, St.rx, Book.x, bkE, bls_len, b_tf, b_ft, wrap60, wrap8]; (try simp (disch := omega) only [wrap_in, Int.toNat_natCast, tv_rn, tv_op0, tv_op1, tv_op2, tv_op3, tv_bls]); subst hk))
          | with_reducible first | refine Kt_p ?_ | refine Kt_i (by kernel_rfl) ?_ | refine Kr_f (by kernel_rfl) ?_
          | (with_reducible refine Kr_t ?_; simp only [List.length_append, List.length_cons, List.length_nil, Nat.reduceAdd, Nat.reduceSub, List.drop_succ_cons, List.drop_zero])
          | with_reducible first | refine vR_nil ?_ | refine KtR_i (by kernel_rfl) ?_ | refine KrR_i (by kernel_rfl) ?_ | refine vR_skip (by decide) ?_
          | ((with_reducible refine vB_i ?_ ?_) <;> intro _ <;> (first | (exfalso; omega) | (exact absurd trivial ‹¬True›) | (try dsimp only [])))
          | ((with_reducible refine vOps_nil' ?_); refine Kr_i (by kernel_rfl) ?_; generalize hk : plain _ _ = G; simp only [lv, E3, E2, E5, rawX, deadX, SB, List.not_mem_nil, ↓reduceIte, ne_eq, reduceCtorEq, Nat.reduceLT, Nat.reduceEqDiff, Nat.reduceAdd, Nat.reduceMul, Nat.reduceLeDiff, Nat.reduceDiv, Nat.reduceMod, Nat.reduceSub, Nat.reduceBEq, List.length_map, bs_len, rn_len, ops_len, ops_cnt, Opn.x, St.x, St.rx, Book.x, bkE, bls_len, b_tf, b_ft, wrap60, wrap8] at hk; subst hk)
          | with_reducible refine vSeq_i ?_
          | with_reducible first | refine vRegion_i (by kernel_rfl) ?_ | refine Kv_i ?_
          | ((with_reducible apply vStrK_i); (focus (rfl; done)))
          | ((with_reducible refine imp_i ?_); intro _)
          | with_reducible first | refine Ks_n ?_ | refine Ks_r ?_ | refine Ks_e ?_ | refine Kl_e ?_ | refine Kx_n ?_ | refine Kl_r ?_ | refine vRet_i ?_ | refine vSkip_i ?_ | refine vExit_i ?_ | refine vBlock_i ?_ | refine Ks_p ?_ | refine Kl_p ?_ | refine blk_p ?_ | exact Kb_p | refine vGoto_i ?_ | refine vLabel_i ?_ | refine Ks_g ?_ | refine Kl_g ?_ | refine blk_g ?_ | refine jmp_g ?_ | refine jmp_n ?_ | refine jmp_r ?_ | refine nog_n ?_ | refine nog_r ?_ | refine blk_n ?_ | refine blk_r ?_ | refine blk_e ?_ | refine blk_o (by decide) ?_ | refine cp_t ?_ | refine cp_f ?_
          | ((with_reducible apply vCond_x); (focus (simp only [lv, E1, E2, E5, ET, T, orc_mv, noO_mv, mvB, orc_bx, noO_bx, bxB, orc_sx, noO_sx, sxB, fwd, fwds, inv, mOk, Int.toNat_natCast, Nat.div_one, Nat.mul_one, Int.reduceToNat, SB, List.not_mem_nil, ↓reduceIte, ne_eq, reduceCtorEq, Nat.reduceLT, Nat.reduceEqDiff, Nat.reduceAdd, Nat.reduceMul, Nat.reduceLeDiff, Nat.reduceDiv, Nat.reduceMod, Nat.reduceSub, Nat.reduceBEq, List.length_map, bs_len, rn_len, ops_len, ops_cnt, Opn.x, St.x, St.rx, Book.x, bkE, bls_len, b_tf, b_ft, wrap60, wrap8]; with_reducible first | exact Eq.refl (bo true) | exact Eq.refl (bo false))))
          | ((with_reducible refine And.intro ?_ ?_); (focus (try omega)))
        all_goals try (exfalso; omega)
        try simp only [hb]
        repeat' first
          | ((first
              | ((with_reducible refine vR_cons (by decide) ?_); generalize hk : KtR _ _ _ _ _ _ _ _ _ _ = k)
              | ((first
              | with_reducible refine vOps_cons' ?_
              | ((with_reducible apply orc_i); (focus (exact p1; done)))
              | ((with_reducible apply orc_i); (focus (exact p2; done)))
              | ((with_reducible apply orc_i); (focus (exact p3; done)))
              | ((with_reducible apply orc_i); (focus (exact p4; done)))
              | ((with_reducible apply orc_i); (focus (exact p7; done)))
              | ((with_reducible apply orc_i); (focus (exact p5 (by assumption); done)))) <;> generalize hk : Kt _ _ _ _ _ _ _ _ _ = k)) <;> (simp only [Tryd.f5, lv, E1, E2, E5, ET, T, orc_mv, noO_mv, mvB, orc_bx, noO_bx, bxB, orc_sx, noO_sx, sxB, fwd, fwds, inv, mOk, Int.toNat_natCast, Nat.div_one, Nat.mul_one, Int.reduceToNat, SB, List.not_mem_nil, ↓reduceIte, ne_eq, reduceCtorEq, Nat.reduceLT, Nat.reduceEqDiff, Nat.reduceAdd, Nat.reduceMul, Nat.reduceLeDiff, Nat.reduceDiv, Nat.reduceMod, Nat.reduceSub, Nat.reduceBEq, List.length_map, bs_len, rn_len, ops_len, ops_cnt, Opn.x, St.x, St.rx, Book.x, bkE, bls_len, b_tf, b_ft, wrap60, wrap8]; (try simp (disch := omega) only [wrap_in, Int.toNat_natCast, tv_rn, tv_op0, tv_op1, tv_op2, tv_op3, tv_bls]); subst hk))
          | with_reducible first | refine Kt_p ?_ | refine Kt_i (by kernel_rfl) ?_ | refine Kr_f (by kernel_rfl) ?_
          | (with_reducible refine Kr_t ?_; simp only [List.length_append, List.length_cons, List.length_nil, Nat.reduceAdd, Nat.reduceSub, List.drop_succ_cons, List.drop_zero])
          | with_reducible first | refine vR_nil ?_ | refine KtR_i (by kernel_rfl) ?_ | refine KrR_i (by kernel_rfl) ?_ | refine vR_skip (by decide) ?_
          | ((with_reducible refine vB_i ?_ ?_) <;> intro _ <;> (first | (exfalso; omega) | (exact absurd trivial ‹¬True›) | (try dsimp only [])))
          | ((with_reducible refine vOps_nil' ?_); refine Kr_i (by kernel_rfl) ?_; generalize hk : plain _ _ = G; simp only [lv, E3, E2, E5, rawX, deadX, SB, List.not_mem_nil, ↓reduceIte, ne_eq, reduceCtorEq, Nat.reduceLT, Nat.reduceEqDiff, Nat.reduceAdd, Nat.reduceMul, Nat.reduceLeDiff, Nat.reduceDiv, Nat.reduceMod, Nat.reduceSub, Nat.reduceBEq, List.length_map, bs_len, rn_len, ops_len, ops_cnt, Opn.x, St.x, St.rx, Book.x, bkE, bls_len, b_tf, b_ft, wrap60, wrap8] at hk; subst hk)
          | with_reducible refine vSeq_i ?_
          | with_reducible first | refine vRegion_i (by kernel_rfl) ?_ | refine Kv_i ?_
          | ((with_reducible apply vStrK_i); (focus (rfl; done)))
          | ((with_reducible refine imp_i ?_); intro _)
          | with_reducible first | refine Ks_n ?_ | refine Ks_r ?_ | refine Ks_e ?_ | refine Kl_e ?_ | refine Kx_n ?_ | refine Kl_r ?_ | refine vRet_i ?_ | refine vSkip_i ?_ | refine vExit_i ?_ | refine vBlock_i ?_ | refine Ks_p ?_ | refine Kl_p ?_ | refine blk_p ?_ | exact Kb_p | refine vGoto_i ?_ | refine vLabel_i ?_ | refine Ks_g ?_ | refine Kl_g ?_ | refine blk_g ?_ | refine jmp_g ?_ | refine jmp_n ?_ | refine jmp_r ?_ | refine nog_n ?_ | refine nog_r ?_ | refine blk_n ?_ | refine blk_r ?_ | refine blk_e ?_ | refine blk_o (by decide) ?_ | refine cp_t ?_ | refine cp_f ?_
          | ((with_reducible apply vCond_x); (focus (simp only [lv, E1, E2, E5, ET, T, orc_mv, noO_mv, mvB, orc_bx, noO_bx, bxB, orc_sx, noO_sx, sxB, fwd, fwds, inv, mOk, Int.toNat_natCast, Nat.div_one, Nat.mul_one, Int.reduceToNat, SB, List.not_mem_nil, ↓reduceIte, ne_eq, reduceCtorEq, Nat.reduceLT, Nat.reduceEqDiff, Nat.reduceAdd, Nat.reduceMul, Nat.reduceLeDiff, Nat.reduceDiv, Nat.reduceMod, Nat.reduceSub, Nat.reduceBEq, List.length_map, bs_len, rn_len, ops_len, ops_cnt, Opn.x, St.x, St.rx, Book.x, bkE, bls_len, b_tf, b_ft, wrap60, wrap8]; with_reducible first | exact Eq.refl (bo true) | exact Eq.refl (bo false))))
          | ((with_reducible refine And.intro ?_ ?_); (focus (try omega)))
        all_goals try (exfalso; omega)
        all_goals first
          | (refine Kf_r ?_; simp only [Tryd.f5, E4, E3, E2, E5, rawX, deadX, ET, T, SB, List.not_mem_nil, ↓reduceIte, ne_eq, reduceCtorEq, Nat.reduceLT, Nat.reduceEqDiff, Nat.reduceAdd, Nat.reduceMul, Nat.reduceLeDiff, Nat.reduceDiv, Nat.reduceMod, Nat.reduceSub, Nat.reduceBEq, List.length_map, bs_len, rn_len, ops_len, ops_cnt, Opn.x, St.x, St.rx, Book.x, bkE, bls_len, b_tf, b_ft, wrap60, wrap8]; done)
          | (rename_i q
             refine Kl_n ⟨(i + 1, k), ⟨by show i + 1 ≤ l.length; omega, by show i + 1 ≤ 60; omega, hok, hr, by show 0 ≤ k.u ∧ k.u ≤ 64 * a; omega, by show 0 ≤ k.n ∧ k.n ≤ ((i + 1 : Nat) : Int); omega, hst⟩, by show l.length - (i + 1) < l.length - i; omega, ?_⟩
             simp only [Int.natCast_add, Int.natCast_one]
             done)
          | (have q : ne = 0 := by assumption
             obtain ⟨z1, z2, z3, z4⟩ := hS q
             obtain rfl := hnk q
             refine Kl_n ⟨(i + 1, ⟨s', k.n + 1, k.u + opC (l.getD i noOp)⟩), ⟨by show i + 1 ≤ l.length; omega, by show i + 1 ≤ 60; omega, z1, z2, by show 0 ≤ k.u + opC (l.getD i noOp) ∧ k.u + opC (l.getD i noOp) ≤ 64 * a; omega, by show 0 ≤ k.n + 1 ∧ k.n + 1 ≤ ((i + 1 : Nat) : Int); omega, z3⟩, by show l.length - (i + 1) < l.length - i; omega, ?_⟩
             simp only [Int.natCast_add, Int.natCast_one]
             done)
          | trace_state
    · skip
      rcases hN : nextF a b c k (l.getD i noOp) with ⟨nk, ne⟩
      have p7 := nextB_ok a b c k (l.getD i noOp) hok hoo (by show k.u ≤ _; omega)
      rw [hN] at p7
      have hF := next_facts hsec (by show 0 ≤ k.u; omega) (by show 0 ≤ k.n ∧ k.n < 1000; omega) hN hA
      try simp only [] at hF
      have hnk : ne = 0 → nk = ⟨s', k.n + 1, k.u + opC (l.getD i noOp)⟩ := fun q => by
        rcases hF with hf | hf | hf | hf | hf
        · omega
        · omega
        · omega
        · omega
        · exact hf.2.2.2.2.2
      have hnu : ne = 0 → nk.u = k.u + opC (l.getD i noOp) ∧ nk.n = k.n + 1 := fun q => by rw [hnk q]; exact ⟨rfl, rfl⟩
      have hS : ne = 0 → s'.ok ∧ rightF s' = 0 ∧ stC s' ≤ 54 * b ∧ k.u + opC (l.getD i noOp) ≤ 64 * a := fun q => by
        rcases hF with hf | hf | hf | hf | hf
        · omega
        · omega
        · omega
        · omega
        · exact ⟨hs'ok hf.1, hs'r hf.1, hf.2.2.1, hf.2.2.2.1⟩
      have hoc := opC_in (l.getD i noOp)
      simp only [Book.x, bkE] at p3 p7
      repeat' first
        | ((first
            | ((with_reducible refine vR_cons (by decide) ?_); generalize hk : KtR _ _ _ _ _ _ _ _ _ _ = k)
            | ((first
            | with_reducible refine vOps_cons' ?_
            | ((with_reducible apply orc_i); (focus (exact p1; done)))
            | ((with_reducible apply orc_i); (focus (exact p2; done)))
            | ((with_reducible apply orc_i); (focus (exact p3; done)))
            | ((with_reducible apply orc_i); (focus (exact p4; done)))
            | ((with_reducible apply orc_i); (focus (exact p7; done)))
            | ((with_reducible apply orc_i); (focus (exact p5 (by assumption); done)))) <;> generalize hk : Kt _ _ _ _ _ _ _ _ _ = k)) <;> (simp only [Tryd.f5, lv, E1, E2, E5, ET, T, orc_mv, noO_mv, mvB, orc_bx, noO_bx, bxB, orc_sx, noO_sx, sxB, fwd, fwds, inv, mOk, Int.toNat_natCast, Nat.div_one, Nat.mul_one, Int.reduceToNat, SB, List.not_mem_nil, ↓reduceIte, ne_eq, reduceCtorEq, Nat.reduceLT, Nat.reduceEqDiff, Nat.reduceAdd, Nat.reduceMul, Nat.reduceLeDiff, Nat.reduceDiv, Nat.reduceMod, Nat.reduceSub, Nat.reduceBEq, List.length_map, bs_len, rn_len, ops_len, ops_cnt, Opn.x, St.x, St.rx, Book.x, bkE, bls_len, b_tf, b_ft, wrap60, wrap8]; (try simp (disch := omega) only [wrap_in, Int.toNat_natCast, tv_rn, tv_op0, tv_op1, tv_op2, tv_op3, tv_bls]); subst hk))
        | with_reducible first | refine Kt_p ?_ | refine Kt_i (by kernel_rfl) ?_ | refine Kr_f (by kernel_rfl) ?_
        | (with_reducible refine Kr_t ?_; simp only [List.length_append, List.length_cons, List.length_nil, Nat.reduceAdd, Nat.reduceSub, List.drop_succ_cons, List.drop_zero])
        | with_reducible first | refine vR_nil ?_ | refine KtR_i (by kernel_rfl) ?_ | refine KrR_i (by kernel_rfl) ?_ | refine vR_skip (by decide) ?_
        | ((with_reducible refine vB_i ?_ ?_) <;> intro _ <;> (first | (exfalso; omega) | (exact absurd trivial ‹¬True›) | (try dsimp only [])))
        | ((with_reducible refine vOps_nil' ?_); refine Kr_i (by kernel_rfl) ?_; generalize hk : plain _ _ = G; simp only [lv, E3, E2, E5, rawX, deadX, SB, List.not_mem_nil, ↓reduceIte, ne_eq, reduceCtorEq, Nat.reduceLT, Nat.reduceEqDiff, Nat.reduceAdd, Nat.reduceMul, Nat.reduceLeDiff, Nat.reduceDiv, Nat.reduceMod, Nat.reduceSub, Nat.reduceBEq, List.length_map, bs_len, rn_len, ops_len, ops_cnt, Opn.x, St.x, St.rx, Book.x, bkE, bls_len, b_tf, b_ft, wrap60, wrap8] at hk; subst hk)
        | with_reducible refine vSeq_i ?_
        | with_reducible first | refine vRegion_i (by kernel_rfl) ?_ | refine Kv_i ?_
        | ((with_reducible apply vStrK_i); (focus (rfl; done)))
        | ((with_reducible refine imp_i ?_); intro _)
        | with_reducible first | refine Ks_n ?_ | refine Ks_r ?_ | refine Ks_e ?_ | refine Kl_e ?_ | refine Kx_n ?_ | refine Kl_r ?_ | refine vRet_i ?_ | refine vSkip_i ?_ | refine vExit_i ?_ | refine vBlock_i ?_ | refine Ks_p ?_ | refine Kl_p ?_ | refine blk_p ?_ | exact Kb_p | refine vGoto_i ?_ | refine vLabel_i ?_ | refine Ks_g ?_ | refine Kl_g ?_ | refine blk_g ?_ | refine jmp_g ?_ | refine jmp_n ?_ | refine jmp_r ?_ | refine nog_n ?_ | refine nog_r ?_ | refine blk_n ?_ | refine blk_r ?_ | refine blk_e ?_ | refine blk_o (by decide) ?_ | refine cp_t ?_ | refine cp_f ?_
        | ((with_reducible apply vCond_x); (focus (simp only [lv, E1, E2, E5, ET, T, orc_mv, noO_mv, mvB, orc_bx, noO_bx, bxB, orc_sx, noO_sx, sxB, fwd, fwds, inv, mOk, Int.toNat_natCast, Nat.div_one, Nat.mul_one, Int.reduceToNat, SB, List.not_mem_nil, ↓reduceIte, ne_eq, reduceCtorEq, Nat.reduceLT, Nat.reduceEqDiff, Nat.reduceAdd, Nat.reduceMul, Nat.reduceLeDiff, Nat.reduceDiv, Nat.reduceMod, Nat.reduceSub, Nat.reduceBEq, List.length_map, bs_len, rn_len, ops_len, ops_cnt, Opn.x, St.x, St.rx, Book.x, bkE, bls_len, b_tf, b_ft, wrap60, wrap8]; with_reducible first | exact Eq.refl (bo true) | exact Eq.refl (bo false))))
        | ((with_reducible refine And.intro ?_ ?_); (focus (try omega)))
      all_goals try (exfalso; omega)
      all_goals first
        | (refine Kf_r ?_; simp only [Tryd.f5, E4, E3, E2, E5, rawX, deadX, ET, T, SB, List.not_mem_nil, ↓reduceIte, ne_eq, reduceCtorEq, Nat.reduceLT, Nat.reduceEqDiff, Nat.reduceAdd, Nat.reduceMul, Nat.reduceLeDiff, Nat.reduceDiv, Nat.reduceMod, Nat.reduceSub, Nat.reduceBEq, List.length_map, bs_len, rn_len, ops_len, ops_cnt, Opn.x, St.x, St.rx, Book.x, bkE, bls_len, b_tf, b_ft, wrap60, wrap8]; done)
        | (rename_i q
           refine Kl_n ⟨(i + 1, k), ⟨by show i + 1 ≤ l.length; omega, by show i + 1 ≤ 60; omega, hok, hr, by show 0 ≤ k.u ∧ k.u ≤ 64 * a; omega, by show 0 ≤ k.n ∧ k.n ≤ ((i + 1 : Nat) : Int); omega, hst⟩, by show l.length - (i + 1) < l.length - i; omega, ?_⟩
           simp only [Int.natCast_add, Int.natCast_one]
           done)
        | (have q : ne = 0 := by assumption
           obtain ⟨z1, z2, z3, z4⟩ := hS q
           obtain rfl := hnk q
           refine Kl_n ⟨(i + 1, ⟨s', k.n + 1, k.u + opC (l.getD i noOp)⟩), ⟨by show i + 1 ≤ l.length; omega, by show i + 1 ≤ 60; omega, z1, z2, by show 0 ≤ k.u + opC (l.getD i noOp) ∧ k.u + opC (l.getD i noOp) ≤ 64 * a; omega, by show 0 ≤ k.n + 1 ∧ k.n + 1 ≤ ((i + 1 : Nat) : Int); omega, z3⟩, by show l.length - (i + 1) < l.length - i; omega, ?_⟩
           simp only [Int.natCast_add, Int.natCast_one]
           done)
        | trace_state
  · have p6 := costState_ok k.s hok
    rw [st_err, hr] at p6
    repeat' first
      | ((first
          | ((with_reducible refine vR_cons (by decide) ?_); generalize hk : KtR _ _ _ _ _ _ _ _ _ _ = k)
          | ((first
          | with_reducible refine vOps_cons' ?_
          | ((with_reducible apply orc_i); (focus (exact p6; done)))) <;> generalize hk : Kt _ _ _ _ _ _ _ _ _ = k)) <;> (simp only [Tryd.f5, lv, E1, E2, E5, ET, T, orc_mv, noO_mv, mvB, orc_bx, noO_bx, bxB, orc_sx, noO_sx, sxB, fwd, fwds, inv, mOk, Int.toNat_natCast, Nat.div_one, Nat.mul_one, Int.reduceToNat, SB, List.not_mem_nil, ↓reduceIte, ne_eq, reduceCtorEq, Nat.reduceLT, Nat.reduceEqDiff, Nat.reduceAdd, Nat.reduceMul, Nat.reduceLeDiff, Nat.reduceDiv, Nat.reduceMod, Nat.reduceSub, Nat.reduceBEq, List.length_map, bs_len, rn_len, ops_len, ops_cnt, Opn.x, St.x, St.rx, Book.x, bkE, bls_len, b_tf, b_ft, wrap60, wrap8]; (try simp (disch := omega) only [wrap_in, Int.toNat_natCast, tv_rn, tv_op0, tv_op1, tv_op2, tv_op3, tv_bls]); subst hk))
      | with_reducible first | refine Kt_p ?_ | refine Kt_i (by kernel_rfl) ?_ | refine Kr_f (by kernel_rfl) ?_
      | (with_reducible refine Kr_t ?_; simp only [List.length_append, List.length_cons, List.length_nil, Nat.reduceAdd, Nat.reduceSub, List.drop_succ_cons, List.drop_zero])
      | with_reducible first | refine vR_nil ?_ | refine KtR_i (by kernel_rfl) ?_ | refine KrR_i (by kernel_rfl) ?_ | refine vR_skip (by decide) ?_
      | ((with_reducible refine vB_i ?_ ?_) <;> intro _ <;> (first | (exfalso; omega) | (exact absurd trivial ‹¬True›) | (try dsimp only [])))
      | ((with_reducible refine vOps_nil' ?_); refine Kr_i (by kernel_rfl) ?_; generalize hk : plain _ _ = G; simp only [lv, E3, E2, E5, rawX, deadX, SB, List.not_mem_nil, ↓reduceIte, ne_eq, reduceCtorEq, Nat.reduceLT, Nat.reduceEqDiff, Nat.reduceAdd, Nat.reduceMul, Nat.reduceLeDiff, Nat.reduceDiv, Nat.reduceMod, Nat.reduceSub, Nat.reduceBEq, List.length_map, bs_len, rn_len, ops_len, ops_cnt, Opn.x, St.x, St.rx, Book.x, bkE, bls_len, b_tf, b_ft, wrap60, wrap8] at hk; subst hk)
      | with_reducible refine vSeq_i ?_
      | with_reducible first | refine vRegion_i (by kernel_rfl) ?_ | refine Kv_i ?_
      | ((with_reducible apply vStrK_i); (focus (rfl; done)))
      | ((with_reducible refine imp_i ?_); intro _)
      | with_reducible first | refine Ks_n ?_ | refine Ks_r ?_ | refine Ks_e ?_ | refine Kl_e ?_ | refine Kx_n ?_ | refine Kl_r ?_ | refine vRet_i ?_ | refine vSkip_i ?_ | refine vExit_i ?_ | refine vBlock_i ?_ | refine Ks_p ?_ | refine Kl_p ?_ | refine blk_p ?_ | exact Kb_p | refine vGoto_i ?_ | refine vLabel_i ?_ | refine Ks_g ?_ | refine Kl_g ?_ | refine blk_g ?_ | refine jmp_g ?_ | refine jmp_n ?_ | refine jmp_r ?_ | refine nog_n ?_ | refine nog_r ?_ | refine blk_n ?_ | refine blk_r ?_ | refine blk_e ?_ | refine blk_o (by decide) ?_ | refine cp_t ?_ | refine cp_f ?_
      | ((with_reducible apply vCond_x); (focus (simp only [lv, E1, E2, E5, ET, T, orc_mv, noO_mv, mvB, orc_bx, noO_bx, bxB, orc_sx, noO_sx, sxB, fwd, fwds, inv, mOk, Int.toNat_natCast, Nat.div_one, Nat.mul_one, Int.reduceToNat, SB, List.not_mem_nil, ↓reduceIte, ne_eq, reduceCtorEq, Nat.reduceLT, Nat.reduceEqDiff, Nat.reduceAdd, Nat.reduceMul, Nat.reduceLeDiff, Nat.reduceDiv, Nat.reduceMod, Nat.reduceSub, Nat.reduceBEq, List.length_map, bs_len, rn_len, ops_len, ops_cnt, Opn.x, St.x, St.rx, Book.x, bkE, bls_len, b_tf, b_ft, wrap60, wrap8]; with_reducible first | exact Eq.refl (bo true) | exact Eq.refl (bo false))))
      | ((with_reducible refine And.intro ?_ ?_); (focus (try omega)))
    all_goals try (exfalso; omega)
    all_goals refine Kf_r ?_
    all_goals simp only [Tryd.f5, E4, E3, E2, E5, rawX, deadX, ET, T, SB, List.not_mem_nil, ↓reduceIte, ne_eq, reduceCtorEq, Nat.reduceLT, Nat.reduceEqDiff, Nat.reduceAdd, Nat.reduceMul, Nat.reduceLeDiff, Nat.reduceDiv, Nat.reduceMod, Nat.reduceSub, Nat.reduceBEq, List.length_map, bs_len, rn_len, ops_len, ops_cnt, Opn.x, St.x, St.rx, Book.x, bkE, bls_len, b_tf, b_ft, wrap60, wrap8]
end Go.Proofs.YtdpflafjfkooeaaDoorG
