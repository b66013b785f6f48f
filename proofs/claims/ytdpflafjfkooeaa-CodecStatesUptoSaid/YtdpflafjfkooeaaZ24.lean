/- YtdpflafjfkooeaaZ24: a part of the proof, joined of its texts. -/
import Derived.Test.YtdpflafjfkooeaaZ23
namespace Go.Proofs.YtdpflafjfkooeaaG
open Go Go.RowKit Go.Proofs
set_option linter.unusedSimpArgs false
set_option linter.unusedVariables false
def inS (n : Int) : Prop := 1 ≤ n ∧ n ≤ 4096
instance (n : Int) : Decidable (inS n) := by unfold inS; infer_instance
abbrev two (p : Int × Int) : X := .tup [.one (.v (.raw (.int .i64 p.1))), .one (.v (.raw (.int .i64 p.2)))]
set_option maxRecDepth 10000 in
set_option maxHeartbeats 4000000 in
theorem refOp_ok (o : Opn) (h : R32s o.text) (hl : o.text.length ≤ 2000000) : CallOk Try.prog 23 [o.x] (.tup [.one (.sr 0), .one (.v (.raw (.int .i64 (opF o).2)))]) [(5, 1, bs (opF o).1)] true := by
  have hv := encV_le o.text
  refine fn_ok' T_ok (orc_ok _) mixed Try.func23 rfl (by kernel_rfl) (lv [[1], [1, 15], [2, 3], [1, 4], [1, 4, 22], [1, 4, 26], [2, 3], [1, 4], [1, 4, 34], [1, 4, 38], [2, 3], [1, 4], [1, 4, 46], [1, 4, 50], [2, 3], [4, 5, 7], [4, 5, 7, 59], [2, 3], [4], [4, 66], [2, 3], [2, 3]]) 68 rfl (by simp) rfl (fun _ => ⟨rfl, rows_raw⟩) ?_
  simp only [argsG, Nat.zero_add, Nat.reduceAdd, Opn.x]
  repeat' first
    | ((first
        | ((with_reducible refine vR_cons (by decide) ?_); generalize hk : KtR _ _ _ _ _ _ _ _ _ _ = k)
        | ((first
        | with_reducible refine vOps_cons' ?_
        | ((with_reducible apply orc_b); (focus (exact is1_ok _; done)); (all_goals (intro hb; (try simp only [decide_eq_true_eq, decide_eq_false_iff_not, Bool.not_eq_true', Bool.not_eq_false', Bool.and_eq_true, Decidable.not_not] at hb))))
        | ((with_reducible apply orc_i); (focus ((have hq := encode1_ok o.text h hl; simp only [encX, encR_v] at hq; exact hq); done)))
        | ((with_reducible apply orc_i); (focus (exact digits_ok _ (by omega) (by omega); done)))) <;> generalize hk : Kt _ _ _ _ _ _ _ _ _ = k)) <;> (simp only [Try.f23, lv, E1, E2, E5, ET, T, orc_mv, noO_mv, mvB, orc_bx, noO_bx, bxB, fwd, fwds, inv, mOk, Int.toNat_natCast, Nat.div_one, Nat.mul_one, Int.reduceToNat, SB, List.not_mem_nil, ↓reduceIte, ne_eq, reduceCtorEq, Nat.reduceLT, Nat.reduceEqDiff, Nat.reduceAdd, Nat.reduceMul, Nat.reduceLeDiff, Nat.reduceDiv, Nat.reduceMod, Nat.reduceSub, Nat.reduceBEq, List.length_map, bs_len, rn_len, chs_len, chs_cnt, List.length_append, List.length_cons, List.length_nil, Ch.x, Opn.x, St.x, List.getD_cons_zero, List.getD_cons_succ]; (try simp (disch := omega) only [wrap_in, Int.toNat_natCast, tv_rn, tv_ch0, tv_ch1, tv_ch2]); subst hk))
    | with_reducible first | refine Kt_p ?_ | refine Kt_i (by kernel_rfl) ?_ | refine Kr_f (by kernel_rfl) ?_
    | (with_reducible refine Kr_t ?_; simp only [List.length_append, List.length_cons, List.length_nil, Nat.reduceAdd, Nat.reduceSub, List.drop_succ_cons, List.drop_zero])
    | with_reducible first | refine vR_nil ?_ | refine KtR_i (by kernel_rfl) ?_ | refine KrR_i (by kernel_rfl) ?_ | refine vR_skip (by decide) ?_
    | ((with_reducible refine vB_i ?_ ?_) <;> intro _ <;> (first | (exfalso; omega) | (exact absurd trivial ‹¬True›) | (try dsimp only [])))
    | ((with_reducible refine vOps_nil' ?_); refine Kr_i (by kernel_rfl) ?_; generalize hk : plain _ _ = G; simp only [lv, E3, E2, E5, rawX, deadX, SB, List.not_mem_nil, ↓reduceIte, ne_eq, reduceCtorEq, Nat.reduceLT, Nat.reduceEqDiff, Nat.reduceAdd, Nat.reduceMul, Nat.reduceLeDiff, Nat.reduceDiv, Nat.reduceMod, Nat.reduceSub, Nat.reduceBEq, List.length_map, bs_len, rn_len, chs_len, chs_cnt, List.length_append, List.length_cons, List.length_nil, Ch.x, Opn.x, St.x, List.getD_cons_zero, List.getD_cons_succ] at hk; subst hk)
    | with_reducible refine vSeq_i ?_
    | with_reducible first | refine vRegion_i (by kernel_rfl) ?_ | refine Kv_i ?_
    | ((with_reducible apply vStrK_i); (focus (rfl; done)))
    | ((with_reducible refine imp_i ?_); intro _)
    | with_reducible first | refine Ks_n ?_ | refine Ks_r ?_ | refine Ks_e ?_ | refine Kl_e ?_ | refine Kx_n ?_ | refine Kl_r ?_ | refine vRet_i ?_ | refine vSkip_i ?_ | refine vExit_i ?_ | refine vBlock_i ?_ | refine Ks_p ?_ | refine Kl_p ?_ | refine blk_p ?_ | exact Kb_p | refine vGoto_i ?_ | refine vLabel_i ?_ | refine Ks_g ?_ | refine Kl_g ?_ | refine blk_g ?_ | refine jmp_g ?_ | refine jmp_n ?_ | refine jmp_r ?_ | refine nog_n ?_ | refine nog_r ?_ | refine blk_n ?_ | refine blk_r ?_ | refine blk_e ?_ | refine blk_o (by decide) ?_ | refine cp_t ?_ | refine cp_f ?_
    | ((with_reducible apply vCond_x); (focus (simp only [lv, E1, E2, E5, ET, T, orc_mv, noO_mv, mvB, orc_bx, noO_bx, bxB, fwd, fwds, inv, mOk, Int.toNat_natCast, Nat.div_one, Nat.mul_one, Int.reduceToNat, SB, List.not_mem_nil, ↓reduceIte, ne_eq, reduceCtorEq, Nat.reduceLT, Nat.reduceEqDiff, Nat.reduceAdd, Nat.reduceMul, Nat.reduceLeDiff, Nat.reduceDiv, Nat.reduceMod, Nat.reduceSub, Nat.reduceBEq, List.length_map, bs_len, rn_len, chs_len, chs_cnt, List.length_append, List.length_cons, List.length_nil, Ch.x, Opn.x, St.x, List.getD_cons_zero, List.getD_cons_succ]; with_reducible first | exact Eq.refl (bo true) | exact Eq.refl (bo false))))
    | ((with_reducible refine And.intro ?_ ?_); (focus (try omega)))
  all_goals try (simp only [List.length_append, List.length_cons, List.length_nil, numB_len]; omega)
  · rename_i k1
    rw [opF_no (by omega) (by omega) (by omega) (by omega)]
    refine Kf_r ?_
    simp only [Try.f23, E4, E3, E2, E5, rawX, deadX, ET, T, SB, List.not_mem_nil, ↓reduceIte, ne_eq, reduceCtorEq, Nat.reduceLT, Nat.reduceEqDiff, Nat.reduceAdd, Nat.reduceMul, Nat.reduceLeDiff, Nat.reduceDiv, Nat.reduceMod, Nat.reduceSub, Nat.reduceBEq, List.length_map, bs_len, rn_len, chs_len, chs_cnt, List.length_append, List.length_cons, List.length_nil, Ch.x, Opn.x, St.x, List.getD_cons_zero, List.getD_cons_succ, bs_nil]
  · rename_i k1 k2
    rw [opF_no (by omega) (by omega) (by omega) (by omega)]
    refine Kf_r ?_
    simp only [Try.f23, E4, E3, E2, E5, rawX, deadX, ET, T, SB, List.not_mem_nil, ↓reduceIte, ne_eq, reduceCtorEq, Nat.reduceLT, Nat.reduceEqDiff, Nat.reduceAdd, Nat.reduceMul, Nat.reduceLeDiff, Nat.reduceDiv, Nat.reduceMod, Nat.reduceSub, Nat.reduceBEq, List.length_map, bs_len, rn_len, chs_len, chs_cnt, List.length_append, List.length_cons, List.length_nil, Ch.x, Opn.x, St.x, List.getD_cons_zero, List.getD_cons_succ, bs_nil]
  · rename_i k1 k2 k3 hb1 k4 k5 k6
    exfalso
    rw [numB_len, numB_len] at k6
    omega
  · rename_i k1 k2 k3 hb1 k4 k5 k6
    have hn : ¬ (isI o.at_ = false ∨ isI o.to_ = false) := fun q => by
      rcases q with q | q
      · rw [isI_t hb1] at q; cases q
      · rw [isI_t hb] at q; cases q
    rw [opF_del k4 hn, k4, w_2, ← bs_app]
    refine Kf_r ?_
    simp only [Try.f23, E4, E3, E2, E5, rawX, deadX, ET, T, SB, List.not_mem_nil, ↓reduceIte, ne_eq, reduceCtorEq, Nat.reduceLT, Nat.reduceEqDiff, Nat.reduceAdd, Nat.reduceMul, Nat.reduceLeDiff, Nat.reduceDiv, Nat.reduceMod, Nat.reduceSub, Nat.reduceBEq, List.length_map, bs_len, rn_len, chs_len, chs_cnt, List.length_append, List.length_cons, List.length_nil, Ch.x, Opn.x, St.x, List.getD_cons_zero, List.getD_cons_succ]
    rfl
  · rename_i k1 k2 k3 hb1 k4
    rw [opF_err2 k4 (.inr (isI_f hb))]
    refine Kf_r ?_
    simp only [Try.f23, E4, E3, E2, E5, rawX, deadX, ET, T, SB, List.not_mem_nil, ↓reduceIte, ne_eq, reduceCtorEq, Nat.reduceLT, Nat.reduceEqDiff, Nat.reduceAdd, Nat.reduceMul, Nat.reduceLeDiff, Nat.reduceDiv, Nat.reduceMod, Nat.reduceSub, Nat.reduceBEq, List.length_map, bs_len, rn_len, chs_len, chs_cnt, List.length_append, List.length_cons, List.length_nil, Ch.x, Opn.x, St.x, List.getD_cons_zero, List.getD_cons_succ, bs_nil]
  · rename_i k1 k2 k3 k4 k5 k6
    rw [opF_err1 k5 (.inr (List.eq_nil_of_length_eq_zero (by omega)))]
    refine Kf_r ?_
    simp only [Try.f23, E4, E3, E2, E5, rawX, deadX, ET, T, SB, List.not_mem_nil, ↓reduceIte, ne_eq, reduceCtorEq, Nat.reduceLT, Nat.reduceEqDiff, Nat.reduceAdd, Nat.reduceMul, Nat.reduceLeDiff, Nat.reduceDiv, Nat.reduceMod, Nat.reduceSub, Nat.reduceBEq, List.length_map, bs_len, rn_len, chs_len, chs_cnt, List.length_append, List.length_cons, List.length_nil, Ch.x, Opn.x, St.x, List.getD_cons_zero, List.getD_cons_succ, bs_nil]
  · rename_i k1 k2 k3 k4 k5 k6 k7 k8
    have hn : ¬ (isI o.at_ = false ∨ o.text = []) := fun q => by
      rcases q with q | q
      · rw [isI_t hb] at q; cases q
      · rw [q] at k6; exact k6 rfl
    have hs := scal_of k7
    rw [show encV o.text = encF o.text from if_pos hs, numB_len] at k8
    rw [opF_big k5 hn hs (by omega)]
    refine Kf_r ?_
    simp only [Try.f23, E4, E3, E2, E5, rawX, deadX, ET, T, SB, List.not_mem_nil, ↓reduceIte, ne_eq, reduceCtorEq, Nat.reduceLT, Nat.reduceEqDiff, Nat.reduceAdd, Nat.reduceMul, Nat.reduceLeDiff, Nat.reduceDiv, Nat.reduceMod, Nat.reduceSub, Nat.reduceBEq, List.length_map, bs_len, rn_len, chs_len, chs_cnt, List.length_append, List.length_cons, List.length_nil, Ch.x, Opn.x, St.x, List.getD_cons_zero, List.getD_cons_succ, bs_nil]
  · rename_i k1 k2 k3 k4 k5 k6 k7 k8
    have hn : ¬ (isI o.at_ = false ∨ o.text = []) := fun q => by
      rcases q with q | q
      · rw [isI_t hb] at q; cases q
      · rw [q] at k6; exact k6 rfl
    have hs := scal_of k7
    rw [show encV o.text = encF o.text from if_pos hs, numB_len] at k8
    rw [opF_ins k5 hn hs (by omega), show encV o.text = encF o.text from if_pos hs, k5, w_1, ← bs_app]
    refine Kf_r ?_
    simp only [Try.f23, E4, E3, E2, E5, rawX, deadX, ET, T, SB, List.not_mem_nil, ↓reduceIte, ne_eq, reduceCtorEq, Nat.reduceLT, Nat.reduceEqDiff, Nat.reduceAdd, Nat.reduceMul, Nat.reduceLeDiff, Nat.reduceDiv, Nat.reduceMod, Nat.reduceSub, Nat.reduceBEq, List.length_map, bs_len, rn_len, chs_len, chs_cnt, List.length_append, List.length_cons, List.length_nil, Ch.x, Opn.x, St.x, List.getD_cons_zero, List.getD_cons_succ]
    rfl
  · rename_i k1 k2 k3 k4 k5 k6 k7
    have hn : ¬ (isI o.at_ = false ∨ o.text = []) := fun q => by
      rcases q with q | q
      · rw [isI_t hb] at q; cases q
      · rw [q] at k6; exact k6 rfl
    have hs := not_scal k7
    rw [opF_scal k5 hn hs, if_neg hs]
    refine Kf_r ?_
    simp only [Try.f23, E4, E3, E2, E5, rawX, deadX, ET, T, SB, List.not_mem_nil, ↓reduceIte, ne_eq, reduceCtorEq, Nat.reduceLT, Nat.reduceEqDiff, Nat.reduceAdd, Nat.reduceMul, Nat.reduceLeDiff, Nat.reduceDiv, Nat.reduceMod, Nat.reduceSub, Nat.reduceBEq, List.length_map, bs_len, rn_len, chs_len, chs_cnt, List.length_append, List.length_cons, List.length_nil, Ch.x, Opn.x, St.x, List.getD_cons_zero, List.getD_cons_succ, bs_nil]
  · rename_i k1 k2 k3
    have e : opF o = ([], 2) := by
      rcases (by omega : o.kind = 1 ∨ o.kind = 2) with q | q
      · exact opF_err1 q (.inl (isI_f hb))
      · exact opF_err2 q (.inl (isI_f hb))
    rw [e]
    refine Kf_r ?_
    simp only [Try.f23, E4, E3, E2, E5, rawX, deadX, ET, T, SB, List.not_mem_nil, ↓reduceIte, ne_eq, reduceCtorEq, Nat.reduceLT, Nat.reduceEqDiff, Nat.reduceAdd, Nat.reduceMul, Nat.reduceLeDiff, Nat.reduceDiv, Nat.reduceMod, Nat.reduceSub, Nat.reduceBEq, List.length_map, bs_len, rn_len, chs_len, chs_cnt, List.length_append, List.length_cons, List.length_nil, Ch.x, Opn.x, St.x, List.getD_cons_zero, List.getD_cons_succ, bs_nil]
  · rename_i k1 k2 k3 k4 k5 k6
    rw [opF_un (by omega), show IntKind.u8.wrap o.kind = o.kind from u8in (by omega) (by omega)]
    refine Kf_r ?_
    simp only [Try.f23, E4, E3, E2, E5, rawX, deadX, ET, T, SB, List.not_mem_nil, ↓reduceIte, ne_eq, reduceCtorEq, Nat.reduceLT, Nat.reduceEqDiff, Nat.reduceAdd, Nat.reduceMul, Nat.reduceLeDiff, Nat.reduceDiv, Nat.reduceMod, Nat.reduceSub, Nat.reduceBEq, List.length_map, bs_len, rn_len, chs_len, chs_cnt, List.length_append, List.length_cons, List.length_nil, Ch.x, Opn.x, St.x, List.getD_cons_zero, List.getD_cons_succ, bs, List.map_cons, List.map_nil]
end Go.Proofs.YtdpflafjfkooeaaG
/- R1: what is written of an operation or a state is read, and what is read is written so (plain Lean). -/
namespace Go.Proofs.YtdpflafjfkooeaaG
open Go Go.RowKit Go.Proofs Go.Proofs.YtdpflafjfkooeaaG.Dec
set_option linter.unusedSimpArgs false
set_option linter.unusedVariables false
/-! ### numbers and texts -/
theorem isI_dest {n : Int} (h : isI n = true) : 0 ≤ n ∧ n ≤ 2147483647 := of_decide_eq_true h
theorem numR_numB {n : Int} (h : isI n = true) (r : List Int) : numR (numB n ++ r) = n := by
  have h' := isI_dest h
  show n / 16777216 % 256 * 16777216 + n / 65536 % 256 * 65536 + n / 256 % 256 * 256 + n % 256 = n
  omega
theorem readNum_B {n : Int} (h : isI n = true) (r : List Int) : readNum (numB n ++ r) = .ok n r := by
  have h' := isI_dest h
  unfold readNum
  rw [numR_numB h, if_pos (by simp only [List.length_append, numB_len]; omega), if_neg (by omega)]
  rfl
theorem encV_forms {l : List Int} (h : scal l) : encV l = forms l := by
  unfold encV; rw [if_pos h, forms_F ((gd_scal l).2 h)]
theorem readText_V {l : List Int} (h : scal l) (r : List Int) : readText ((encV l).length : Int) (encV l ++ r) = .ok l r := by
  have e : ((encV l ++ r).take ((encV l).length : Int).toNat) = encV l := by rw [Int.toNat_natCast]; exact List.take_left' rfl
  have d : (encV l ++ r).drop ((encV l).length : Int).toNat = r := by rw [Int.toNat_natCast]; exact List.drop_left' rfl
  have g : dec (encV l) = (l, 0, 0) := by rw [encV_forms h]; exact dec_enc ((gd_scal l).2 h)
  unfold readText
  rw [e, d, g, if_pos (by simp only [List.length_append]; omega)]
  exact if_pos rfl
theorem numB_byte (n : Int) : Bytes (numB n) := fun x hx => by
  simp only [numB, List.mem_cons, List.not_mem_nil, or_false] at hx
  rcases hx with rfl | rfl | rfl | rfl <;> omega
theorem encV_byte (l : List Int) : Bytes (encV l) := by
  by_cases h : scal l
  · rw [encV_forms h]; exact forms_byte l
  · unfold encV; rw [if_neg h]; exact fun x hx => by simp at hx
theorem Dec.Bytes.app {a b : List Int} (h1 : Bytes a) (h2 : Bytes b) : Bytes (a ++ b) := fun x hx => by
  rcases List.mem_append.1 hx with h | h
  · exact h1 x h
  · exact h2 x h
theorem num_back {xs r : List Int} {n : Int} (h : readNum xs = .ok n r) (hb : Bytes xs) : xs = numB n ++ r ∧ isI n = true := by
  obtain ⟨e1, e2⟩ := num_rest h
  have hn := numR_nn hb
  have hl : 4 ≤ xs.length ∧ numR xs ≤ 2147483647 := by
    unfold readNum at h
    (repeat' split at h) <;> first | (cases h; done) | exact ⟨‹_›, by omega⟩
  subst e1
  have b0 := rd_bd hb 0; have b1 := rd_bd hb 1; have b2 := rd_bd hb 2; have b3 := rd_bd hb 3
  refine ⟨?_, by rw [e2]; exact isI_t ⟨hn, hl.2⟩⟩
  match xs, hl.1 with
  | a :: b :: c :: d :: t, _ =>
    have e : n = a * 16777216 + b * 65536 + c * 256 + d := e2
    have b0 : 0 ≤ a ∧ a ≤ 255 := b0
    have b1 : 0 ≤ b ∧ b ≤ 255 := b1
    have b2 : 0 ≤ c ∧ c ≤ 255 := b2
    have b3 : 0 ≤ d ∧ d ≤ 255 := b3
    have q0 : n / 16777216 % 256 = a := by omega
    have q1 : n / 65536 % 256 = b := by omega
    have q2 : n / 256 % 256 = c := by omega
    have q3 : n % 256 = d := by omega
    show a :: b :: c :: d :: t = n / 16777216 % 256 :: n / 65536 % 256 :: n / 256 % 256 :: n % 256 :: t
    rw [q0, q1, q2, q3]
theorem dec_back {xs : List Int} (hb : Bytes xs) (h : (dec xs).2.2 = 0) : scal (dec xs).1 ∧ encV (dec xs).1 = xs := by
  rcases dec_split hb with ⟨m, h1, h2, h3⟩ | ⟨j, _, h3⟩
  · rw [h3]
    have hs := (gd_scal m).1 h1
    exact ⟨hs, by rw [encV_forms hs]; exact h2⟩
  · rw [h3] at h
    have h : (10 : Int) = 0 := h
    exact absurd h (by decide)
theorem text_back {xs r l : List Int} {n : Int} (h : readText n xs = .ok l r) (hb : Bytes xs) (h0 : 0 ≤ n) : xs = encV l ++ r ∧ ((encV l).length : Int) = n ∧ scal l := by
  obtain ⟨e1, e2, e3⟩ := text_rest h
  have hz : (dec (xs.take n.toNat)).2.2 = 0 := by
    unfold readText at h
    (repeat' split at h) <;> first | (cases h; done) | assumption
  obtain ⟨h1, h2⟩ := dec_back (hb.take n.toNat) hz
  rw [← e2] at h1 h2
  refine ⟨by rw [h2, e1, List.take_append_drop], ?_, h1⟩
  rw [h2, List.length_take]
  omega
/-! ### readings, one behind the other -/
theorem RR.bind_assoc {α β γ : Type} (r : RR α) (f : α → List Int → RR β) (g : β → List Int → RR γ) : (r.bind f).bind g = r.bind fun a x => (f a x).bind g := by cases r <;> rfl
theorem RR.bind_okE {α β : Type} (a : α) (x : List Int) (f : α → List Int → RR β) : (RR.ok a x).bind f = f a x := rfl
theorem RR.bind_badE {α β : Type} (e : Int) (f : α → List Int → RR β) : (RR.bad e : RR α).bind f = .bad e := rfl
theorem readNum_if (xs : List Int) : readNum xs = if xs.length < 4 then .bad 20 else if numR xs > 2147483647 then .bad 50 else .ok (numR xs) (xs.drop 4) := by
  unfold readNum
  (repeat' split) <;> first | rfl | (exfalso; omega)
def readChB (xs : List Int) : RR Ch := (readNum xs).bind fun a r => (readNum r).bind fun n r => (readText n r).bind fun g r => (readNum r).bind fun m r => (readText m r).bind fun c r => .ok ⟨a, g, c⟩ r
theorem readText_if (n : Int) (xs : List Int) : readText n xs = if (xs.length : Int) < n then .bad 20 else if (dec (xs.take n.toNat)).2.2 ≠ 0 then .bad (dec (xs.take n.toNat)).2.2 else .ok (dec (xs.take n.toNat)).1 (xs.drop n.toNat) := by
  unfold readText
  (repeat' split) <;> first | rfl | (exfalso; omega) | (exfalso; contradiction)
theorem ite_congr3 {α : Type} {c d : Prop} [Decidable c] [Decidable d] {a b b' : α} (h : c ↔ d) (hb : ¬ c → b = b') : (if c then a else b) = if d then a else b' := by
  by_cases q : c
  · rw [if_pos q, if_pos (h.1 q)]
  · rw [if_neg q, if_neg (fun z => q (h.2 z)), hb q]
theorem bind_if {α β : Type} {c : Prop} [Decidable c] {e : Int} {r : RR α} {f : α → List Int → RR β} : (if c then RR.bad e else r).bind f = if c then RR.bad e else r.bind f := by
  split <;> rfl
theorem readCh_eq {xs : List Int} (h : Bytes xs) : readCh xs = readChB xs := by
  have n1 := numR_nn (h.drop 4)
  have n2 := numR_nn (h.drop (8 + (numR (xs.drop 4)).toNat))
  unfold readCh readChB
  rw [readNum_if xs, bind_if]
  refine ite_congr3 Iff.rfl fun q1 => ?_
  rw [bind_if]
  refine ite_congr3 Iff.rfl fun q2 => ?_
  rw [RR.bind_okE, readNum_if, bind_if]
  simp only [List.length_drop, List.drop_drop]
  refine ite_congr3 (by omega) fun q3 => ?_
  rw [bind_if]
  refine ite_congr3 Iff.rfl fun q4 => ?_
  rw [RR.bind_okE, readText_if, bind_if]
  simp only [List.length_drop, List.drop_drop, Nat.reduceAdd]
  refine ite_congr3 (by omega) fun q5 => ?_
  rw [bind_if]
  refine ite_congr3 Iff.rfl fun q6 => ?_
  rw [RR.bind_okE, readNum_if, bind_if]
  simp only [List.length_drop, List.drop_drop]
  refine ite_congr3 (by omega) fun q7 => ?_
  rw [bind_if]
  refine ite_congr3 Iff.rfl fun q8 => ?_
  rw [RR.bind_okE, readText_if, bind_if]
  simp only [List.length_drop, List.drop_drop]
  refine ite_congr3 (by omega) fun q9 => ?_
  rw [bind_if]
  refine ite_congr3 Iff.rfl fun q10 => ?_
  rfl
theorem readN_eq (n : Nat) (xs : List Int) : readN (n + 1) xs = (readCh xs).bind fun c r => (readN n r).bind fun l r => .ok (c :: l) r := by
  rw [readN]
  cases readCh xs with
  | bad e => rfl
  | ok c r =>
    show (readN n r).pre [c] = (readN n r).bind _
    cases readN n r <;> rfl
def readCnt (xs : List Int) : RR Nat := if xs.length < 1 then .bad 20 else .ok (rd xs 0).toNat (xs.drop 1)
theorem readChs_eq (xs : List Int) : readChs xs = (readCnt xs).bind fun n r => readN n r := by
  unfold readChs readCnt
  split <;> rfl
/-- A state, read, but for the end. -/
def readSt0 (xs : List Int) : RR (Int × St) := (readNum xs).bind fun c r => (readNum r).bind fun n r => (readText n r).bind fun t r => (readChs r).bind fun u r => (readChs r).bind fun v r => .ok (c, ⟨t, u, v⟩) r
theorem readSt_eq (xs : List Int) : readSt xs = (readSt0 xs).bind fun p r => (readEnd r).bind fun _ r => .ok p r := by
  unfold readSt readSt0
  simp only [RR.bind_assoc, RR.bind_okE]
/-! ### forward -/
/-- What may be written of a change. -/
structure ChW (c : Ch) : Prop where
  at_ : isI c.at_ = true
  gone : scal c.gone
  came : scal c.came
  lgone : isI ((encV c.gone).length : Int) = true
  lcame : isI ((encV c.came).length : Int) = true
theorem chF_byte (c : Ch) : Bytes (chF c) := (numB_byte _).app (((numB_byte _).app (encV_byte _)).app ((numB_byte _).app (encV_byte _)))
theorem readCh_F {c : Ch} (h : ChW c) (r : List Int) (hr : Bytes r) : readCh (chF c ++ r) = .ok c r := by
  rw [readCh_eq ((chF_byte c).app hr)]
  unfold readChB chF pieceF
  simp only [List.append_assoc]
  rw [readNum_B h.at_, RR.bind_okE, readNum_B h.lgone, RR.bind_okE, readText_V h.gone, RR.bind_okE, readNum_B h.lcame, RR.bind_okE, readText_V h.came, RR.bind_okE]
theorem flat_byte : ∀ l : List Ch, Bytes (l.flatMap chF)
  | [] => fun x hx => by simp at hx
  | c :: l => by rw [List.flatMap_cons]; exact (chF_byte c).app (flat_byte l)
theorem readN_F : ∀ (l : List Ch) (r : List Int), (∀ c ∈ l, ChW c) → Bytes r → readN l.length (l.flatMap chF ++ r) = .ok l r
  | [], r, _, _ => rfl
  | c :: l, r, h, hr => by
    rw [List.length_cons, readN_eq, List.flatMap_cons, List.append_assoc, readCh_F (h c (by simp)) _ ((flat_byte l).app hr), RR.bind_okE, readN_F l r (fun c hc => h c (by simp [hc])) hr]
    rfl
theorem readChs_F {l : List Ch} (h : ∀ c ∈ l, ChW c) (hl : l.length ≤ 255) (r : List Int) (hr : Bytes r) : readChs (chsF l ++ r) = .ok l r := by
  unfold readChs chsF
  rw [if_neg (by simp)]
  have e : rd (((l.length : Int) % 256 :: l.flatMap chF) ++ r) 0 = (l.length : Int) % 256 := rfl
  have d : (((l.length : Int) % 256 :: l.flatMap chF) ++ r).drop 1 = l.flatMap chF ++ r := rfl
  rw [e, d, show ((l.length : Int) % 256).toNat = l.length by omega]
  exact readN_F l r h hr
theorem chsF_byte (l : List Ch) : Bytes (chsF l) := fun x hx => by
  rcases List.mem_cons.1 hx with rfl | h
  · omega
  · exact flat_byte l x h
/-- A state's bytes, plain. -/
def stB (n : Int) (s : St) : List Int := numB n ++ (pieceF s.text ++ (chsF s.undo ++ chsF s.redo))
theorem stB_byte (n : Int) (s : St) : Bytes (stB n s) := (numB_byte _).app (((numB_byte _).app (encV_byte _)).app ((chsF_byte _).app (chsF_byte _)))
/-- What may be written of a state. -/
structure StW (s : St) : Prop where
  text : scal s.text
  ltext : isI ((encV s.text).length : Int) = true
  undo : ∀ c ∈ s.undo, ChW c
  redo : ∀ c ∈ s.redo, ChW c
  ulen : s.undo.length ≤ 255
  rlen : s.redo.length ≤ 255
theorem readSt0_F {n : Int} {s : St} (hn : isI n = true) (h : StW s) (r : List Int) (hr : Bytes r) : readSt0 (stB n s ++ r) = .ok (n, s) r := by
  unfold readSt0 stB pieceF
  simp only [List.append_assoc]
  rw [readNum_B hn, RR.bind_okE, readNum_B h.ltext, RR.bind_okE, readText_V h.text, RR.bind_okE, readChs_F h.undo h.ulen _ ((chsF_byte _).app hr), RR.bind_okE, readChs_F h.redo h.rlen _ hr, RR.bind_okE]
theorem readSt_F {n : Int} {s : St} (hn : isI n = true) (h : StW s) : readSt (stB n s) = .ok (n, s) [] := by
  have := readSt0_F hn h [] (fun x hx => by simp at hx)
  rw [List.append_nil] at this
  rw [readSt_eq, this]
  rfl
theorem readSt_more {n : Int} {s : St} (hn : isI n = true) (h : StW s) (m : Int) (hm : 0 ≤ m ∧ m ≤ 255) : readSt (stB n s ++ [m]) = .bad 50 := by
  rw [readSt_eq, readSt0_F hn h [m] (fun x hx => by simp at hx; subst hx; exact hm)]
  rfl
/-! ### backward -/
theorem ch_back {xs r : List Int} {c : Ch} (h : readCh xs = .ok c r) (hb : Bytes xs) : xs = chF c ++ r := by
  rw [readCh_eq hb] at h
  obtain ⟨a1, r1, q1, h⟩ := RR.bind_ok h
  obtain ⟨a2, r2, q2, h⟩ := RR.bind_ok h
  obtain ⟨a3, r3, q3, h⟩ := RR.bind_ok h
  obtain ⟨a4, r4, q4, h⟩ := RR.bind_ok h
  obtain ⟨a5, r5, q5, h⟩ := RR.bind_ok h
  cases h
  obtain ⟨e1, i1⟩ := num_back q1 hb
  have b1 : Bytes r1 := by rw [(num_rest q1).1]; exact hb.drop _
  obtain ⟨e2, i2⟩ := num_back q2 b1
  have b2 : Bytes r2 := by rw [(num_rest q2).1]; exact b1.drop _
  obtain ⟨e3, l3, s3⟩ := text_back q3 b2 (isI_dest i2).1
  have b3 : Bytes r3 := by rw [(text_rest q3).1]; exact b2.drop _
  obtain ⟨e4, i4⟩ := num_back q4 b3
  have b4 : Bytes r4 := by rw [(num_rest q4).1]; exact b3.drop _
  obtain ⟨e5, l5, s5⟩ := text_back q5 b4 (isI_dest i4).1
  unfold chF pieceF
  simp only [List.append_assoc]
  rw [e1, e2, e3, e4, e5, l3, l5]
theorem ch_byte {xs r : List Int} {c : Ch} (h : readCh xs = .ok c r) (hb : Bytes xs) : Bytes r := by
  have e := ch_back h hb
  exact fun x hx => hb x (by rw [e]; exact List.mem_append.2 (.inr hx))
theorem n_back : ∀ {k : Nat} {xs r : List Int} {l : List Ch}, readN k xs = .ok l r → Bytes xs → xs = l.flatMap chF ++ r ∧ l.length = k
  | 0, xs, r, l, h, hb => by
    simp only [readN] at h
    cases h
    exact ⟨rfl, rfl⟩
  | k + 1, xs, r, l, h, hb => by
    rw [readN_eq] at h
    obtain ⟨c, r1, q1, h⟩ := RR.bind_ok h
    obtain ⟨l2, r2, q2, h⟩ := RR.bind_ok h
    cases h
    obtain ⟨e2, k2⟩ := n_back q2 (ch_byte q1 hb)
    refine ⟨?_, by simp [k2]⟩
    rw [ch_back q1 hb, List.flatMap_cons, List.append_assoc, ← e2]
theorem chs_back {xs r : List Int} {l : List Ch} (h : readChs xs = .ok l r) (hb : Bytes xs) : xs = chsF l ++ r := by
  unfold readChs at h
  split at h
  · cases h
  · obtain ⟨e, k⟩ := n_back h (hb.drop 1)
    have b0 := rd_bd hb 0
    cases xs with
    | nil => rename_i q; exact absurd (by simp) q
    | cons x t =>
      have b0 : 0 ≤ x ∧ x ≤ 255 := b0
      have k : l.length = x.toNat := k
      have e : t = l.flatMap chF ++ r := e
      show x :: t = (l.length : Int) % 256 :: (l.flatMap chF ++ r)
      rw [← e, show (l.length : Int) % 256 = x by omega]
theorem chs_byte {xs r : List Int} {l : List Ch} (h : readChs xs = .ok l r) (hb : Bytes xs) : Bytes r := by
  have e := chs_back h hb
  exact fun x hx => hb x (by rw [e]; exact List.mem_append.2 (.inr hx))
theorem st_back {xs r : List Int} {n : Int} {s : St} (h : readSt xs = .ok (n, s) r) (hb : Bytes xs) : xs = stB n s ∧ isI n = true := by
  obtain ⟨a1, r1, q1, h⟩ := RR.bind_ok h
  obtain ⟨a2, r2, q2, h⟩ := RR.bind_ok h
  obtain ⟨a3, r3, q3, h⟩ := RR.bind_ok h
  obtain ⟨a4, r4, q4, h⟩ := RR.bind_ok h
  obtain ⟨a5, r5, q5, h⟩ := RR.bind_ok h
  obtain ⟨a6, r6, q6, h⟩ := RR.bind_ok h
  cases h
  obtain ⟨e1, i1⟩ := num_back q1 hb
  have b1 : Bytes r1 := by rw [(num_rest q1).1]; exact hb.drop _
  obtain ⟨e2, i2⟩ := num_back q2 b1
  have b2 : Bytes r2 := by rw [(num_rest q2).1]; exact b1.drop _
  obtain ⟨e3, l3, s3⟩ := text_back q3 b2 (isI_dest i2).1
  have b3 : Bytes r3 := by rw [(text_rest q3).1]; exact b2.drop _
  have e4 := chs_back q4 b3
  have b4 := chs_byte q4 b3
  have e5 := chs_back q5 b4
  have e6 : r5 = [] := by
    unfold readEnd at q6
    split at q6
    · assumption
    · cases q6
  refine ⟨?_, i1⟩
  unfold stB pieceF
  simp only [List.append_assoc]
  rw [e1, e2, e3, e4, e5, e6, l3, List.append_nil]
/-! ### beginnings -/
/-- A reading takes a number of bytes, and looks at no more; of fewer it says that they are too few. -/
def Pre {α : Type} (R : List Int → RR α) : Prop := ∀ xs a r, R xs = .ok a r → Bytes xs → ∃ m, m ≤ xs.length ∧ r = xs.drop m ∧ (∀ k, k < m → R (xs.take k) = .bad 20) ∧ ∀ k, m ≤ k → R (xs.take k) = .ok a ((xs.drop m).take (k - m))
theorem Pre.bind {α β : Type} {R : List Int → RR α} {S : α → List Int → RR β} (h : Pre R) (h2 : ∀ a, Pre (S a)) : Pre fun xs => (R xs).bind S := by
  intro xs b s hx hb
  obtain ⟨a, r, q1, q2⟩ := RR.bind_ok hx
  obtain ⟨m, m1, m2, m3, m4⟩ := h xs a r q1 hb
  subst m2
  obtain ⟨n, n1, n2, n3, n4⟩ := h2 a _ b s q2 (hb.drop _)
  rw [List.length_drop] at n1
  refine ⟨m + n, by omega, by rw [n2, List.drop_drop], fun k hk => ?_, fun k hk => ?_⟩
  · show (R (xs.take k)).bind S = _
    by_cases c : k < m
    · rw [m3 k c]; rfl
    · rw [m4 k (by omega), RR.bind_okE, n3 _ (by omega)]
  · show (R (xs.take k)).bind S = _
    rw [m4 k (by omega), RR.bind_okE, n4 _ (by omega), List.drop_drop, show k - m - n = k - (m + n) by omega]
theorem Pre.okay {α : Type} (a : α) : Pre fun xs => RR.ok a xs := by
  intro xs b s hx hb
  cases hx
  exact ⟨0, by omega, rfl, fun k hk => by omega, fun k hk => by simp⟩
theorem Pre.congr {α : Type} {R S : List Int → RR α} (h : Pre S) (e : ∀ xs, Bytes xs → R xs = S xs) : Pre R := by
  intro xs a r hx hb
  rw [e xs hb] at hx
  obtain ⟨m, m1, m2, m3, m4⟩ := h xs a r hx hb
  exact ⟨m, m1, m2, fun k hk => by rw [e _ (hb.take k)]; exact m3 k hk, fun k hk => by rw [e _ (hb.take k)]; exact m4 k hk⟩
theorem numR_takeK (l : List Int) {k : Nat} (h : 4 ≤ k) : numR (l.take k) = numR l := by
  rw [← numR_take (l.take k), List.take_take, Nat.min_eq_left h, numR_take]
theorem pre_num : Pre readNum := by
  intro xs a r hx hb
  obtain ⟨e1, e2⟩ := num_rest hx
  have hl : 4 ≤ xs.length ∧ ¬ numR xs > 2147483647 := by
    unfold readNum at hx
    (repeat' split at hx) <;> first | (cases hx; done) | exact ⟨‹_›, ‹_›⟩
  refine ⟨4, hl.1, e1, fun k hk => ?_, fun k hk => ?_⟩
  · rw [readNum_if, if_pos (by simp only [List.length_take]; omega)]
  · rw [readNum_if, if_neg (by simp only [List.length_take]; omega), numR_takeK _ hk, if_neg hl.2, e2, List.drop_take]
theorem pre_text (n : Int) : Pre (readText n) := by
  intro xs l r hx hb
  obtain ⟨e1, e2, e3⟩ := text_rest hx
  have hz : (dec (xs.take n.toNat)).2.2 = 0 := by
    unfold readText at hx
    (repeat' split at hx) <;> first | (cases hx; done) | assumption
  refine ⟨n.toNat, by omega, e1, fun k hk => ?_, fun k hk => ?_⟩
  · unfold readText
    rw [if_neg (by simp only [List.length_take]; omega)]
  · unfold readText
    rw [if_pos (by simp only [List.length_take]; omega), List.take_take, Nat.min_eq_left hk, if_pos hz, e2, List.drop_take]
theorem pre_ch : Pre readCh := by
  refine Pre.congr (S := readChB) ?_ fun xs h => readCh_eq h
  exact pre_num.bind fun a => pre_num.bind fun n => (pre_text n).bind fun g => pre_num.bind fun m => (pre_text m).bind fun c => Pre.okay _
theorem pre_N : ∀ n, Pre (readN n)
  | 0 => Pre.okay []
  | n + 1 => Pre.congr (S := fun xs => (readCh xs).bind fun c r => (readN n r).bind fun l r => .ok (c :: l) r) (pre_ch.bind fun c => (pre_N n).bind fun l => Pre.okay _) fun xs _ => readN_eq n xs
theorem pre_cnt : Pre readCnt := by
  intro xs n r hx hb
  unfold readCnt at hx
  split at hx
  · cases hx
  · rename_i hl
    cases hx
    refine ⟨1, by omega, rfl, fun k hk => ?_, fun k hk => ?_⟩
    · unfold readCnt
      rw [if_pos (by simp only [List.length_take]; omega)]
    · unfold readCnt
      rw [if_neg (by simp only [List.length_take]; omega), List.drop_take]
      congr 2
      simp [rd, List.getD, List.getElem?_take, show 0 < k by omega]
theorem pre_chs : Pre readChs := Pre.congr (pre_cnt.bind fun n => pre_N n) fun xs _ => readChs_eq xs
theorem pre_st0 : Pre readSt0 := pre_num.bind fun c => pre_num.bind fun n => (pre_text n).bind fun t => pre_chs.bind fun u => pre_chs.bind fun v => Pre.okay _
theorem readSt_cut {n : Int} {s : St} (hn : isI n = true) (h : StW s) {k : Nat} (hk : k < (stB n s).length) : readSt ((stB n s).take k) = .bad 20 := by
  have h0 := readSt0_F hn h [] (fun x hx => by simp at hx)
  rw [List.append_nil] at h0
  obtain ⟨m, m1, m2, m3, m4⟩ := pre_st0 _ _ _ h0 (stB_byte n s)
  have hm : (stB n s).length ≤ m := by
    have := congrArg List.length m2
    simp only [List.length_nil, List.length_drop] at this
    omega
  rw [readSt_eq, m3 k (by omega)]
  rfl
/-! ### operations -/
/-- What is read of an operation's bytes: what its kind does not name is nothing. -/
def Opn.named (o : Opn) : Opn := ⟨o.kind, if o.kind = 1 ∨ o.kind = 2 then o.at_ else 0, if o.kind = 2 then o.to_ else 0, if o.kind = 1 then o.text else []⟩
theorem opF_bad {o : Opn} (h : (opF o).2 ≠ 0) : (opF o).1 = [] := by
  by_cases k1 : o.kind = 1
  · by_cases hn : isI o.at_ = false ∨ o.text = []
    · rw [opF_err1 k1 hn]
    by_cases hs : scal o.text
    rotate_left
    · rw [opF_scal k1 hn hs]
    by_cases hb : 5 + (encF o.text).length > 4096
    · rw [opF_big k1 hn hs hb]
    rw [opF_ins k1 hn hs hb] at h; exact absurd rfl h
  by_cases k2 : o.kind = 2
  · by_cases hn : isI o.at_ = false ∨ isI o.to_ = false
    · rw [opF_err2 k2 hn]
    rw [opF_del k2 hn] at h; exact absurd rfl h
  by_cases k3 : o.kind = 3 ∨ o.kind = 4
  · rw [opF_un k3] at h; exact absurd rfl h
  · rw [opF_no k1 k2 (by omega) (by omega)]
theorem opF_good {o : Opn} (h : (opF o).2 = 0) : readOpF (opF o).1 = (o.named, 0) := by
  by_cases k1 : o.kind = 1
  · by_cases hn : isI o.at_ = false ∨ o.text = []
    · rw [opF_err1 k1 hn] at h; exact absurd h (by decide)
    by_cases hs : scal o.text
    rotate_left
    · rw [opF_scal k1 hn hs] at h; exact absurd h (by decide)
    by_cases hb : 5 + (encF o.text).length > 4096
    · rw [opF_big k1 hn hs hb] at h; exact absurd h (by decide)
    rw [opF_ins k1 hn hs hb]
    have hi : isI o.at_ = true := by cases q : isI o.at_ with | false => exact absurd (.inl q) hn | true => rfl
    have hi' := isI_dest hi
    have hg := (gd_scal o.text).2 hs
    have hd : dec (encF o.text) = (o.text, 0, 0) := by rw [← forms_F hg]; exact dec_enc hg
    have hle : 0 < (encF o.text).length := by
      rw [← forms_F hg]
      have := forms_ge hg
      have : 0 < o.text.length := by cases q : o.text with | nil => exact absurd (.inr q) hn | cons _ _ => simp
      omega
    have e1 : (1 :: (numB o.at_ ++ encF o.text)).drop 1 = numB o.at_ ++ encF o.text := rfl
    have e5 : (1 :: (numB o.at_ ++ encF o.text)).drop 5 = encF o.text := rfl
    have el : (1 :: (numB o.at_ ++ encF o.text)).length = 5 + (encF o.text).length := by simp only [List.length_cons, List.length_append, numB_len]; omega
    have er : readOp (1 :: (numB o.at_ ++ encF o.text)) = .ok ⟨1, o.at_, 0, o.text⟩ [] := by
      unfold readOp
      rw [if_neg (by rw [el]; omega), if_pos (show rd (1 :: (numB o.at_ ++ encF o.text)) 0 = 1 from rfl), if_neg (by rw [el]; omega), e1, numR_numB hi, if_neg (by omega), if_neg (by rw [el]; omega), e5, hd]
      exact if_pos rfl
    rw [readOpF, er]
    show (if _ then _ else _) = _
    rw [if_neg (by rw [el]; omega)]
    unfold Opn.named
    rw [k1]
    rfl
  by_cases k2 : o.kind = 2
  · by_cases hn : isI o.at_ = false ∨ isI o.to_ = false
    · rw [opF_err2 k2 hn] at h; exact absurd h (by decide)
    rw [opF_del k2 hn]
    have hi : isI o.at_ = true := by cases q : isI o.at_ with | false => exact absurd (.inl q) hn | true => rfl
    have hj : isI o.to_ = true := by cases q : isI o.to_ with | false => exact absurd (.inr q) hn | true => rfl
    have hi' := isI_dest hi
    have hj' := isI_dest hj
    have e1 : (2 :: (numB o.at_ ++ numB o.to_)).drop 1 = numB o.at_ ++ numB o.to_ := rfl
    have e5 : (2 :: (numB o.at_ ++ numB o.to_)).drop 5 = numB o.to_ ++ [] := rfl
    have el : (2 :: (numB o.at_ ++ numB o.to_)).length = 9 := rfl
    have er : readOp (2 :: (numB o.at_ ++ numB o.to_)) = .ok ⟨2, o.at_, o.to_, []⟩ [] := by
      unfold readOp
      rw [el, if_neg (by decide), if_neg (show ¬ rd (2 :: (numB o.at_ ++ numB o.to_)) 0 = 1 from show ¬ (2 : Int) = 1 by decide), if_pos (show rd (2 :: (numB o.at_ ++ numB o.to_)) 0 = 2 from rfl), if_neg (by decide), e1, numR_numB hi, e5, numR_numB hj, if_neg (by omega)]
    rw [readOpF, er]
    show (if _ then _ else _) = _
    rw [if_neg (by rw [el]; omega)]
    unfold Opn.named
    rw [k2]
    rfl
  by_cases k3 : o.kind = 3 ∨ o.kind = 4
  · rw [opF_un k3]
    unfold Opn.named
    rcases k3 with k | k <;> rw [k] <;> rfl
  · rw [opF_no k1 k2 (by omega) (by omega)] at h; exact absurd h (by decide)
theorem readOpF_bad {b : List Int} (h : (readOpF b).2 ≠ 0) : (readOpF b).1 = zOp := by
  unfold readOpF at h ⊢
  cases q : readOp b with
  | bad e => rfl
  | ok a r =>
    rw [q] at h
    by_cases hl : b.length > 4096
    · simp only [if_pos hl]
    · simp only [if_neg hl] at h; exact absurd rfl h
theorem two_num {x : List Int} (hb : Bytes x) (hl : 4 ≤ x.length) (hn : numR x ≤ 2147483647) : x = numB (numR x) ++ x.drop 4 ∧ isI (numR x) = true :=
  num_back (r := x.drop 4) (by rw [readNum_if, if_neg (by omega), if_neg (by omega)]) hb
theorem readOpF_good {b : List Int} (hB : Bytes b) (h : (readOpF b).2 = 0) : opF (readOpF b).1 = (b, 0) := by
  cases q : readOp b with
  | bad e =>
    have := readOp_e q
    rw [readOpF, q] at h
    exact absurd h this
  | ok a r =>
    have e : readOpF b = if b.length > 4096 then (zOp, 3) else (a, 0) := by rw [readOpF, q]
    rw [e] at h ⊢
    split at h
    · exact absurd h (by decide)
    rename_i hl
    rw [if_neg hl]
    unfold readOp at q
    split at q
    · cases q
    rename_i h1
    obtain ⟨x, t, rfl⟩ : ∃ x t, b = x :: t := by cases b with | nil => exact absurd (by simp) h1 | cons x t => exact ⟨x, t, rfl⟩
    have hT : Bytes t := fun y hy => hB y (by simp [hy])
    have ed : (x :: t).drop 1 = t := rfl
    have e5 : (x :: t).drop 5 = t.drop 4 := rfl
    have el : (x :: t).length = t.length + 1 := rfl
    split at q
    · rename_i k
      have k : x = 1 := k
      subst k
      rw [ed, e5, el] at q
      rw [el] at hl
      (repeat' split at q) <;> first | (cases q; done) | skip
      rename_i c1 c2 c3 c4
      cases q
      obtain ⟨t1, t2⟩ := two_num hT (by omega) (by omega)
      obtain ⟨d1, d2⟩ := dec_back (hT.drop 4) c4
      have d3 : encF (dec (t.drop 4)).1 = t.drop 4 := by rw [← show encV (dec (t.drop 4)).1 = encF (dec (t.drop 4)).1 from if_pos d1]; exact d2
      have ne : ¬ (isI (numR t) = false ∨ (dec (t.drop 4)).1 = []) := by
        rintro (z | z)
        · rw [t2] at z; cases z
        · rw [z] at d3
          have := congrArg List.length d3
          simp only [encF_nil, List.length_nil, List.length_drop] at this
          omega
      rw [opF_ins rfl ne d1 (by rw [d3, List.length_drop]; omega)]
      show (1 :: (numB (numR t) ++ encF (dec (t.drop 4)).1), (0 : Int)) = _
      rw [d3, ← t1]
    split at q
    · rename_i k1 k
      have k : x = 2 := k
      subst k
      rw [ed, e5, el] at q
      (repeat' split at q) <;> first | (cases q; done) | skip
      rename_i c1 c2
      cases q
      obtain ⟨t1, t2⟩ := two_num hT (by omega) (by omega)
      obtain ⟨u1, u2⟩ := two_num (hT.drop 4) (by rw [List.length_drop]; omega) (by omega)
      have e8 : (t.drop 4).drop 4 = [] := by rw [List.drop_drop]; exact List.drop_of_length_le (by omega)
      rw [e8, List.append_nil] at u1
      have ne : ¬ (isI (numR t) = false ∨ isI (numR (t.drop 4)) = false) := by
        rintro (z | z)
        · rw [t2] at z; cases z
        · rw [u2] at z; cases z
      rw [opF_del rfl ne]
      show (2 :: (numB (numR t) ++ numB (numR (t.drop 4))), (0 : Int)) = _
      rw [← u1, ← t1]
    split at q
    · rename_i k1 k2 k
      have k : x = 3 ∨ x = 4 := k
      split at q
      · rename_i c
        cases q
        have : t = [] := List.eq_nil_of_length_eq_zero (by rw [el] at c; omega)
        subst this
        exact opF_un (o := ⟨x, 0, 0, []⟩) k
      · cases q
    · cases q
end Go.Proofs.YtdpflafjfkooeaaG
namespace Go.Proofs.YtdpflafjfkooeaaG
open Go Go.RowKit Go.Proofs
set_option linter.unusedSimpArgs false
set_option linter.unusedVariables false
def formG (r : Int) : List Int := if szU r = 0 then [] else formF r
theorem formG_len (r : Int) : ((formG r).length : Int) = szU r := by
  unfold formG
  by_cases h : szU r = 0
  · rw [if_pos h, h]; rfl
  · rw [if_neg h]; exact form_len h
/-- How many bytes the numbers have, one by one. -/
def textN (l : List Int) : Nat := (l.flatMap formG).length
theorem textN_1 {l : List Int} {k : Nat} (h : k < l.length) : (textN (l.take (k + 1)) : Int) = textN (l.take k) + szU (l.getD k 0) := by
  unfold textN
  rw [take_1 h, List.flatMap_append, List.length_append]
  simp only [List.flatMap_cons, List.flatMap_nil, List.append_nil]
  have := formG_len (l.getD k 0)
  omega
theorem textN_le (l : List Int) : textN l ≤ 4 * l.length := by
  unfold textN
  induction l with
  | nil => simp
  | cons r l ih => have h1 := formG_len r; have h2 := szU_le r; simp only [List.flatMap_cons, List.length_append, List.length_cons] at ih ⊢; omega
theorem textN_scal {l : List Int} (hs : scal l) : textN l = (encV l).length := by
  have : ∀ l : List Int, (∀ r ∈ l, szU r ≠ 0) → l.flatMap formG = l.flatMap formF := fun l => by
    induction l with
    | nil => intro _; rfl
    | cons r l ih => intro h; rw [List.flatMap_cons, List.flatMap_cons, ih fun r hr => h r (by simp [hr])]; unfold formG; rw [if_neg (h r (by simp))]
  unfold textN encV encF
  rw [if_pos hs, this l fun r hr => ?_]
  obtain ⟨i, hi, rfl⟩ := List.getElem_of_mem hr
  have := hs i hi
  rwa [List.getD_eq_getElem?_getD, List.getElem?_eq_getElem hi] at this
end Go.Proofs.YtdpflafjfkooeaaG
namespace Go.Proofs.YtdpflafjfkooeaaG
open Go Go.RowKit Go.Proofs
set_option linter.unusedSimpArgs false
set_option linter.unusedVariables false
def sumN (l : List Ch) : Nat := (l.map fun c => 12 + textN c.gone + textN c.came).sum
theorem sumN_1 {l : List Ch} {k : Nat} (h : k < l.length) : sumN (l.take (k + 1)) = sumN (l.take k) + (12 + textN (l.getD k noCh).gone + textN (l.getD k noCh).came) := by
  have e : l.take (k + 1) = l.take k ++ [l.getD k noCh] := by rw [List.take_add_one]; simp [List.getD, List.getElem?_eq_getElem h]
  unfold sumN
  rw [e, List.map_append, List.sum_append]
  simp
theorem sumN_le {l : List Ch} (h : ∀ c ∈ l, c.small) : sumN l ≤ l.length * 16000012 := by
  unfold sumN
  induction l with
  | nil => simp
  | cons c l ih =>
    have h1 := ih fun c hc => h c (by simp [hc])
    have h2 := h c (by simp)
    have h3 := textN_le c.gone; have h4 := textN_le c.came; have := h2.1; have := h2.2
    simp only [List.map_cons, List.sum_cons, List.length_cons]; omega
def bytesF (s : St) : Int := 10 + (textN s.text : Int) + (sumN (s.undo ++ s.redo) : Int)
theorem chF_len {c : Ch} (h1 : scal c.gone) (h2 : scal c.came) : (chF c).length = 12 + textN c.gone + textN c.came := by
  simp only [chF, pieceF, List.length_append, numB_len, textN_scal h1, textN_scal h2]; omega
theorem flat_len2 {l : List Ch} (h : ∀ c ∈ l, scal c.gone ∧ scal c.came) : (l.flatMap chF).length = sumN l := by
  unfold sumN
  induction l with
  | nil => rfl
  | cons c l ih =>
    have h1 := ih fun c hc => h c (by simp [hc])
    have h2 := h c (by simp)
    simp only [List.flatMap_cons, List.length_append, List.map_cons, List.sum_cons, h1, chF_len h2.1 h2.2]
theorem sumN_app (a b : List Ch) : sumN (a ++ b) = sumN a + sumN b := by simp [sumN]
theorem walk_scal : ∀ {l : List Ch} {n : Nat} {t : List Int}, walkN l n t = true → ∀ j, j < n → scal (l.getD j noCh).gone ∧ scal (l.getD j noCh).came
  | l, 0, t, _, j, hj => by omega
  | l, n + 1, t, h, j, hj => by
    simp only [walkN, Bool.and_eq_true, decide_eq_true_eq] at h
    rcases Nat.lt_or_eq_of_le (Nat.le_of_lt_succ hj) with q | q
    · exact walk_scal h.2 j q
    · subst q; exact ⟨h.1.1.1, h.1.1.2.1⟩
theorem right_scal {s : St} (h : rightF s = 0) : scal s.text ∧ (∀ c ∈ s.undo, scal c.gone ∧ scal c.came) ∧ ∀ c ∈ s.redo, scal c.gone ∧ scal c.came := by
  unfold rightF at h
  split at h
  · exact absurd h (by decide)
  · split at h
    · exact absurd h (by decide)
    · rename_i hs
      split at h
      · exact absurd h (by decide)
      · rename_i hw
        have hw' : walkN (s.undo.map Ch.inv) s.undo.length s.text = true ∧ walkN s.redo s.redo.length s.text = true := by simpa using hw
        refine ⟨Decidable.not_not.1 hs, fun c hc => ?_, fun c hc => ?_⟩
        · obtain ⟨j, hj, rfl⟩ := List.getElem_of_mem hc
          have := walk_scal hw'.1 j hj
          rw [getD_inv] at this
          have e : s.undo.getD j noCh = s.undo[j] := by simp [List.getD, List.getElem?_eq_getElem hj]
          rw [e] at this
          exact ⟨this.2, this.1⟩
        · obtain ⟨j, hj, rfl⟩ := List.getElem_of_mem hc
          have := walk_scal hw'.2 j hj
          have e : s.redo.getD j noCh = s.redo[j] := by simp [List.getD, List.getElem?_eq_getElem hj]
          rw [e] at this
          exact this
theorem isI_0 : isI 0 = true := by decide
theorem st_len {n : Int} {s : St} (hn : isI n = true) (h : rightF s = 0) : ((stF n s).1.length : Int) = bytesF s := by
  obtain ⟨h1, h2, h3⟩ := right_scal h
  rw [stF_ok hn h]
  simp only [List.length_append, numB_len, pieceF, chsF, List.length_cons, flat_len2 h2, flat_len2 h3, ← textN_scal h1, bytesF, sumN_app]
  omega
end Go.Proofs.YtdpflafjfkooeaaG
/- A21: what is done to a state that may be is one: in plain Lean. -/
namespace Go.Proofs.YtdpflafjfkooeaaG
open Go Go.RowKit Go.Proofs
set_option linter.unusedSimpArgs false
set_option linter.unusedVariables false
theorem inv_inv (c : Ch) : c.inv.inv = c := rfl
theorem scal_app {a b : List Int} (ha : scal a) (hb : scal b) : scal (a ++ b) := fun i hi => by
  by_cases h : i < a.length
  · have := ha i h
    simpa [List.getD, List.getElem?_append, h] using this
  · have := hb (i - a.length) (by simp at hi; omega)
    simpa [List.getD, List.getElem?_append, h] using this
theorem scal_take {a : List Int} (ha : scal a) (n : Nat) : scal (a.take n) := fun i hi => by
  simp at hi
  have := ha i (by omega)
  simpa [List.getD, List.getElem?_take, show i < n by omega] using this
theorem scal_drop {a : List Int} (ha : scal a) (n : Nat) : scal (a.drop n) := fun i hi => by
  simp at hi
  have := ha (n + i) (by omega)
  simpa [List.getD, List.getElem?_drop] using this
theorem scal_done {c : Ch} {t : List Int} (hc : c.good t) (ht : scal t) : scal (c.done t) := scal_app (scal_app (scal_take ht _) hc.2.1) (scal_drop ht _)
/-- A change and its inverse. -/
theorem undone {c : Ch} {t : List Int} (h : c.good t) : c.inv.good (c.done t) ∧ c.inv.done (c.done t) = t := by
  obtain ⟨s1, s2, f1, f2, f3, f4⟩ := h
  obtain ⟨a, ha⟩ : ∃ a : Nat, c.at_ = a := ⟨c.at_.toNat, by omega⟩
  have e1 : c.at_.toNat = a := by omega
  have e2 : (c.at_ + (c.gone.length : Int)).toNat = a + c.gone.length := by omega
  have e3 : (c.at_ + (c.came.length : Int)).toNat = a + c.came.length := by omega
  have hla : (t.take a).length = a := by rw [List.length_take]; omega
  have hlen : (c.done t).length = t.length - c.gone.length + c.came.length := Ch.done_len ⟨f1, f2, f3, f4⟩
  have hd : (c.done t).drop a = c.came ++ t.drop (a + c.gone.length) := by
    unfold Ch.done
    rw [e1, e2, List.append_assoc, List.drop_append_of_le_length (by omega), List.drop_of_length_le (by omega), List.nil_append]
  have hf : c.inv.fits (c.done t) := by
    refine ⟨f1, ?_, ?_, ?_⟩
    · show c.at_ ≤ _; omega
    · show (c.came.length : Int) ≤ _ - c.at_; omega
    · show ((c.done t).drop c.at_.toNat).take c.came.length = c.came
      rw [e1, hd, List.take_left']
      rfl
  refine ⟨⟨s2, s1, hf⟩, ?_⟩
  show (c.done t).take c.at_.toNat ++ c.gone ++ (c.done t).drop (c.at_ + (c.came.length : Int)).toNat = t
  rw [e1, e3]
  have h1 : (c.done t).take a = t.take a := by
    unfold Ch.done
    rw [e1, List.append_assoc, List.take_append_of_le_length (by omega), List.take_take, Nat.min_self]
  have h2 : (c.done t).drop (a + c.came.length) = t.drop (a + c.gone.length) := by
    rw [← List.drop_drop, hd, List.drop_left']
    rfl
  rw [h1, h2]
  rw [e1] at f4
  conv => rhs; rw [← List.take_append_drop a t]
  rw [List.append_assoc]
  congr 1
  conv => rhs; rw [← List.take_append_drop c.gone.length (t.drop a)]
  rw [f4, List.drop_drop]
theorem getD_app {l : List Ch} {x : Ch} : (l ++ [x]).getD l.length noCh = x := by simp [List.getD]
theorem getD_app_lt {l r : List Ch} {k : Nat} (h : k < l.length) : (l ++ r).getD k noCh = l.getD k noCh := by simp [List.getD, List.getElem?_append, h]
theorem walk_app {l r : List Ch} : ∀ {n : Nat} {t : List Int}, n ≤ l.length → walkN (l ++ r) n t = walkN l n t
  | 0, _, _ => rfl
  | n + 1, t, h => by simp only [walkN]; rw [getD_app_lt (by omega), walk_app (by omega)]
theorem walk_snoc {l : List Ch} {x : Ch} {t : List Int} : walkN (l ++ [x]) (l.length + 1) t = (decide (x.good t ∧ (x.done t).length ≤ 4096) && walkN l l.length (x.done t)) := by
  simp only [walkN]; rw [getD_app, walk_app (Nat.le_refl _)]
theorem walk_take {l : List Ch} {m : Nat} : ∀ {n : Nat} {t : List Int}, n ≤ m → walkN (l.take m) n t = walkN l n t
  | 0, _, _ => rfl
  | n + 1, t, h => by
    have e : (l.take m).getD n noCh = l.getD n noCh := by simp [List.getD, List.getElem?_take, show n < m by omega]
    simp only [walkN]; rw [e, walk_take (by omega)]
theorem walk_drop {l : List Ch} : ∀ {n : Nat} {t : List Int}, walkN l (n + 1) t = true → walkN (l.drop 1) n t = true
  | 0, _, _ => rfl
  | n + 1, t, h => by
    rw [walkN, Bool.and_eq_true] at h
    have e : (l.drop 1).getD n noCh = l.getD (n + 1) noCh := by simp [List.getD, List.getElem?_drop, Nat.add_comm]
    rw [walkN, e, Bool.and_eq_true]
    exact ⟨h.1, walk_drop h.2⟩
theorem right_of {s : St} (h1 : s.text.length ≤ 4096) (h2 : s.undo.length + s.redo.length ≤ 16) (h3 : scal s.text) (h4 : walkN (s.undo.map Ch.inv) s.undo.length s.text = true) (h5 : walkN s.redo s.redo.length s.text = true) : rightF s = 0 := by
  unfold rightF
  rw [if_neg (by omega), if_neg (fun h => h h3), if_neg (by rw [h4, h5]; simp)]
end Go.Proofs.YtdpflafjfkooeaaG
/- R2: a state that may be is read again as it was written. -/
namespace Go.Proofs.YtdpflafjfkooeaaG
open Go Go.RowKit Go.Proofs Go.Proofs.YtdpflafjfkooeaaG.Dec
set_option linter.unusedSimpArgs false
set_option linter.unusedVariables false
theorem walk_at : ∀ {l : List Ch} {n : Nat} {t : List Int}, t.length ≤ 4096 → walkN l n t = true → ∀ j, j < n → isI (l.getD j noCh).at_ = true
  | l, 0, t, _, _, j, hj => by omega
  | l, n + 1, t, ht, h, j, hj => by
    simp only [walkN, Bool.and_eq_true, decide_eq_true_eq] at h
    rcases Nat.lt_or_eq_of_le (Nat.le_of_lt_succ hj) with q | q
    · exact walk_at h.1.2 h.2 j q
    · subst q
      have f := h.1.1.2.2
      exact isI_t ⟨f.1, by have := f.2.1; omega⟩
theorem right_at {s : St} (h : rightF s = 0) : (∀ c ∈ s.undo, isI c.at_ = true) ∧ ∀ c ∈ s.redo, isI c.at_ = true := by
  obtain ⟨z1, z2, z3, z4, z5⟩ := right_zero h
  refine ⟨fun c hc => ?_, fun c hc => ?_⟩
  · obtain ⟨j, hj, rfl⟩ := List.getElem_of_mem hc
    have := walk_at z1 z4 j hj
    rw [getD_inv] at this
    have e : s.undo.getD j noCh = s.undo[j] := by simp [List.getD, List.getElem?_eq_getElem hj]
    rw [e] at this
    exact this
  · obtain ⟨j, hj, rfl⟩ := List.getElem_of_mem hc
    have := walk_at z1 z5 j hj
    have e : s.redo.getD j noCh = s.redo[j] := by simp [List.getD, List.getElem?_eq_getElem hj]
    rw [e] at this
    exact this
theorem isI_len {l : List Int} (h : l.length ≤ 100000) : isI ((encV l).length : Int) = true := isI_t ⟨by omega, by have := encV_le l; omega⟩
theorem right_W {s : St} (hs : s.ok) (h : rightF s = 0) : StW s := by
  obtain ⟨h1, h2, h3⟩ := right_scal h
  obtain ⟨a1, a2⟩ := right_at h
  obtain ⟨z1, z2, z3, z4, z5⟩ := right_zero h
  exact ⟨h1, isI_len hs.len, fun c hc => ⟨a1 c hc, (h2 c hc).1, (h2 c hc).2, isI_len (hs.undo c hc).gone, isI_len (hs.undo c hc).came⟩, fun c hc => ⟨a2 c hc, (h3 c hc).1, (h3 c hc).2, isI_len (hs.redo c hc).gone, isI_len (hs.redo c hc).came⟩, by omega, by omega⟩
theorem stF_B {n : Int} {s : St} (hn : isI n = true) (h : rightF s = 0) : stF n s = (stB n s, 0) := stF_ok hn h
/-- The bytes of a state that may be. -/
theorem stB_len {n : Int} {s : St} (hn : isI n = true) (h : rightF s = 0) : ((stB n s).length : Int) = bytesF s := by
  have := st_len hn h
  rwa [stF_B hn h] at this
theorem stB_ge (n : Int) (s : St) : 10 ≤ (stB n s).length := by
  simp only [stB, pieceF, chsF, List.length_append, List.length_cons, numB_len]; omega
end Go.Proofs.YtdpflafjfkooeaaG
namespace Go.Proofs.YtdpflafjfkooeaaG
open Go Go.RowKit Go.Proofs
set_option linter.unusedSimpArgs false
set_option linter.unusedVariables false
theorem memO {l : List Opn} {k : Nat} (h : k < l.length) : l.getD k noOp ∈ l := by simp [List.getD, List.getElem?_eq_getElem h]
set_option maxRecDepth 10000 in
set_option maxHeartbeats 4000000 in
theorem written_ok (hg : GoesOk) (l : List Opn) (hl : l.length ≤ 2000000) (h : ∀ o ∈ l, R32s o.text) (h2 : ∀ o ∈ l, o.text.length ≤ 2000000) : CallOk Try.prog 31 [sln 4 (ops l)] (wrN l (min l.length 40)).x [] false := by
  refine fn_ok' T_ok (orc_ok _) mixed Try.func31 rfl (by kernel_rfl) (lv [[0, 2, 1000002], [0, 2, 3, 1000003], [0, 2, 3, 4], [0, 2, 3, 4, 16], [0, 2, 3, 4], [0, 2, 3, 4, 5], [0, 2, 3, 4, 5, 26], [0, 2, 3, 4, 5], [0, 2, 3, 4, 6, 7], [0, 2, 3, 4, 6, 38], [0, 2, 3, 4, 1000003], [2, 1000002]]) 41 rfl (by simp) rfl (by simp) ?_
  simp only [argsG, Nat.zero_add, Nat.reduceAdd]
  repeat' first
    | ((first
        | ((with_reducible refine vR_cons (by decide) ?_); generalize hk : KtR _ _ _ _ _ _ _ _ _ _ = k)
        | ((first
        | with_reducible refine vOps_cons' ?_) <;> generalize hk : Kt _ _ _ _ _ _ _ _ _ = k)) <;> (simp only [Try.f31, lv, E1, E2, E5, ET, T, orc_mv, noO_mv, mvB, orc_bx, noO_bx, bxB, fwd, fwds, inv, mOk, Int.toNat_natCast, Nat.div_one, Nat.mul_one, Int.reduceToNat, SB, List.not_mem_nil, ↓reduceIte, ne_eq, reduceCtorEq, Nat.reduceLT, Nat.reduceEqDiff, Nat.reduceAdd, Nat.reduceMul, Nat.reduceLeDiff, Nat.reduceDiv, Nat.reduceMod, Nat.reduceSub, Nat.reduceBEq, rn_len, chs_len, chs_cnt, ops_len, ops_cnt, List.length_map, Ch.x, St.rx, Opn.x, St.x, cut_rn, take_drop_len, List.length_append, List.length_take, List.length_drop, ← rn_app, Int.sub_zero]; (try simp (disch := omega) only [wrap_in, Int.toNat_natCast, tv_rn, tv_op0, tv_op1, tv_op2, tv_op3]); subst hk))
    | with_reducible first | refine Kt_p ?_ | refine Kt_i (by kernel_rfl) ?_ | refine Kr_f (by kernel_rfl) ?_
    | (with_reducible refine Kr_t ?_; simp only [List.length_append, List.length_cons, List.length_nil, Nat.reduceAdd, Nat.reduceSub, List.drop_succ_cons, List.drop_zero])
    | with_reducible first | refine vR_nil ?_ | refine KtR_i (by kernel_rfl) ?_ | refine KrR_i (by kernel_rfl) ?_ | refine vR_skip (by decide) ?_
    | ((with_reducible refine vB_i ?_ ?_) <;> intro _ <;> (first | (exfalso; omega) | (exact absurd trivial ‹¬True›) | (try dsimp only [])))
    | ((with_reducible refine vOps_nil' ?_); refine Kr_i (by kernel_rfl) ?_; generalize hk : plain _ _ = G; simp only [lv, E3, E2, E5, rawX, deadX, SB, List.not_mem_nil, ↓reduceIte, ne_eq, reduceCtorEq, Nat.reduceLT, Nat.reduceEqDiff, Nat.reduceAdd, Nat.reduceMul, Nat.reduceLeDiff, Nat.reduceDiv, Nat.reduceMod, Nat.reduceSub, Nat.reduceBEq, rn_len, chs_len, chs_cnt, ops_len, ops_cnt, List.length_map, Ch.x, St.rx, Opn.x, St.x, cut_rn, take_drop_len, List.length_append, List.length_take, List.length_drop, ← rn_app, Int.sub_zero] at hk; subst hk)
    | with_reducible refine vSeq_i ?_
    | with_reducible first | refine vRegion_i (by kernel_rfl) ?_ | refine Kv_i ?_
    | ((with_reducible apply vStrK_i); (focus (rfl; done)))
    | ((with_reducible refine imp_i ?_); intro _)
    | with_reducible first | refine Ks_n ?_ | refine Ks_r ?_ | refine Ks_e ?_ | refine Kl_e ?_ | refine Kx_n ?_ | refine Kl_r ?_ | refine vRet_i ?_ | refine vSkip_i ?_ | refine vExit_i ?_ | refine vBlock_i ?_ | refine Ks_p ?_ | refine Kl_p ?_ | refine blk_p ?_ | exact Kb_p | refine vGoto_i ?_ | refine vLabel_i ?_ | refine Ks_g ?_ | refine Kl_g ?_ | refine blk_g ?_ | refine jmp_g ?_ | refine jmp_n ?_ | refine jmp_r ?_ | refine nog_n ?_ | refine nog_r ?_ | refine blk_n ?_ | refine blk_r ?_ | refine blk_e ?_ | refine blk_o (by decide) ?_ | refine cp_t ?_ | refine cp_f ?_
    | ((with_reducible apply vCond_x); (focus (simp only [lv, E1, E2, E5, ET, T, orc_mv, noO_mv, mvB, orc_bx, noO_bx, bxB, fwd, fwds, inv, mOk, Int.toNat_natCast, Nat.div_one, Nat.mul_one, Int.reduceToNat, SB, List.not_mem_nil, ↓reduceIte, ne_eq, reduceCtorEq, Nat.reduceLT, Nat.reduceEqDiff, Nat.reduceAdd, Nat.reduceMul, Nat.reduceLeDiff, Nat.reduceDiv, Nat.reduceMod, Nat.reduceSub, Nat.reduceBEq, rn_len, chs_len, chs_cnt, ops_len, ops_cnt, List.length_map, Ch.x, St.rx, Opn.x, St.x, cut_rn, take_drop_len, List.length_append, List.length_take, List.length_drop, ← rn_app, Int.sub_zero]; with_reducible first | exact Eq.refl (bo true) | exact Eq.refl (bo false))))
    | ((with_reducible refine And.intro ?_ ?_); (focus (try omega)))
  refine vLoop_s (fun k : Nat => [(.t 0, .t (sln 4 (ops l))), (.t 2, .t (.p (.one (.pr 0 0)))), (.t 3, .t (.p (.one (.pr 1 0)))), (.t 4, .t (i64 k)), (.box 0, .box 25 [.v (.sl 1 []), .v (.sl 3 []), .v (.sl 3 [])]), (.box 1, .box 25 [.v (.sl 1 (rn (wrN l k).text)), .v (.sl 3 (chs (wrN l k).undo)), .v (.sl 3 (chs (wrN l k).redo))])])
    (fun k => k ≤ l.length ∧ k ≤ 40) (fun k => l.length - k) 0 ⟨by omega, by omega⟩ rfl ?_
  rintro k ⟨hk, hk4⟩
  have hw := wrN_ok h k hk
  repeat' first
    | ((first
        | ((with_reducible refine vR_cons (by decide) ?_); generalize hk : KtR _ _ _ _ _ _ _ _ _ _ = k)
        | ((first
        | with_reducible refine vOps_cons' ?_
        | ((with_reducible apply orc_i); (focus (exact apply_ok hg (wrN l k) (cutO (l.getD k noOp)) hw (cutO_ok (h _ (memO (by omega)))); done)))
        | ((with_reducible apply orc_i); (focus (exact apply_ok hg (wrN l k) (l.getD k noOp) hw ⟨by omega, h _ (memO (by omega))⟩; done)))) <;> generalize hk : Kt _ _ _ _ _ _ _ _ _ = k)) <;> (simp only [Try.f31, lv, E1, E2, E5, ET, T, orc_mv, noO_mv, mvB, orc_bx, noO_bx, bxB, fwd, fwds, inv, mOk, Int.toNat_natCast, Nat.div_one, Nat.mul_one, Int.reduceToNat, SB, List.not_mem_nil, ↓reduceIte, ne_eq, reduceCtorEq, Nat.reduceLT, Nat.reduceEqDiff, Nat.reduceAdd, Nat.reduceMul, Nat.reduceLeDiff, Nat.reduceDiv, Nat.reduceMod, Nat.reduceSub, Nat.reduceBEq, rn_len, chs_len, chs_cnt, ops_len, ops_cnt, List.length_map, Ch.x, St.rx, Opn.x, St.x, cut_rn, take_drop_len, List.length_append, List.length_take, List.length_drop, ← rn_app, Int.sub_zero]; (try simp (disch := omega) only [wrap_in, Int.toNat_natCast, tv_rn, tv_op0, tv_op1, tv_op2, tv_op3]); subst hk))
    | with_reducible first | refine Kt_p ?_ | refine Kt_i (by kernel_rfl) ?_ | refine Kr_f (by kernel_rfl) ?_
    | (with_reducible refine Kr_t ?_; simp only [List.length_append, List.length_cons, List.length_nil, Nat.reduceAdd, Nat.reduceSub, List.drop_succ_cons, List.drop_zero])
    | with_reducible first | refine vR_nil ?_ | refine KtR_i (by kernel_rfl) ?_ | refine KrR_i (by kernel_rfl) ?_ | refine vR_skip (by decide) ?_
    | ((with_reducible refine vB_i ?_ ?_) <;> intro _ <;> (first | (exfalso; omega) | (exact absurd trivial ‹¬True›) | (try dsimp only [])))
    | ((with_reducible refine vOps_nil' ?_); refine Kr_i (by kernel_rfl) ?_; generalize hk : plain _ _ = G; simp only [lv, E3, E2, E5, rawX, deadX, SB, List.not_mem_nil, ↓reduceIte, ne_eq, reduceCtorEq, Nat.reduceLT, Nat.reduceEqDiff, Nat.reduceAdd, Nat.reduceMul, Nat.reduceLeDiff, Nat.reduceDiv, Nat.reduceMod, Nat.reduceSub, Nat.reduceBEq, rn_len, chs_len, chs_cnt, ops_len, ops_cnt, List.length_map, Ch.x, St.rx, Opn.x, St.x, cut_rn, take_drop_len, List.length_append, List.length_take, List.length_drop, ← rn_app, Int.sub_zero] at hk; subst hk)
    | with_reducible refine vSeq_i ?_
    | with_reducible first | refine vRegion_i (by kernel_rfl) ?_ | refine Kv_i ?_
    | ((with_reducible apply vStrK_i); (focus (rfl; done)))
    | ((with_reducible refine imp_i ?_); intro _)
    | with_reducible first | refine Ks_n ?_ | refine Ks_r ?_ | refine Ks_e ?_ | refine Kl_e ?_ | refine Kx_n ?_ | refine Kl_r ?_ | refine vRet_i ?_ | refine vSkip_i ?_ | refine vExit_i ?_ | refine vBlock_i ?_ | refine Ks_p ?_ | refine Kl_p ?_ | refine blk_p ?_ | exact Kb_p | refine vGoto_i ?_ | refine vLabel_i ?_ | refine Ks_g ?_ | refine Kl_g ?_ | refine blk_g ?_ | refine jmp_g ?_ | refine jmp_n ?_ | refine jmp_r ?_ | refine nog_n ?_ | refine nog_r ?_ | refine blk_n ?_ | refine blk_r ?_ | refine blk_e ?_ | refine blk_o (by decide) ?_ | refine cp_t ?_ | refine cp_f ?_
    | ((with_reducible apply vCond_x); (focus (simp only [lv, E1, E2, E5, ET, T, orc_mv, noO_mv, mvB, orc_bx, noO_bx, bxB, fwd, fwds, inv, mOk, Int.toNat_natCast, Nat.div_one, Nat.mul_one, Int.reduceToNat, SB, List.not_mem_nil, ↓reduceIte, ne_eq, reduceCtorEq, Nat.reduceLT, Nat.reduceEqDiff, Nat.reduceAdd, Nat.reduceMul, Nat.reduceLeDiff, Nat.reduceDiv, Nat.reduceMod, Nat.reduceSub, Nat.reduceBEq, rn_len, chs_len, chs_cnt, ops_len, ops_cnt, List.length_map, Ch.x, St.rx, Opn.x, St.x, cut_rn, take_drop_len, List.length_append, List.length_take, List.length_drop, ← rn_app, Int.sub_zero]; with_reducible first | exact Eq.refl (bo true) | exact Eq.refl (bo false))))
    | ((with_reducible refine And.intro ?_ ?_); (focus (try omega)))
  all_goals first
    | (rename_i a1 a2 a3 a4
       refine Kl_n ⟨k + 1, ⟨by omega, by omega⟩, by omega, ?_⟩
       simp only [wrN, stepW]
       first
         | rw [if_pos a4]
         | rw [if_neg a4]
         | rw [cutO_eq (by omega), if_pos a4]
         | rw [cutO_eq (by omega), if_neg a4]
       simp only [Int.natCast_add, Int.natCast_one]
       done)
    | (rw [show min l.length 40 = k by omega]
       refine Kf_r ?_
       simp only [Try.f31, E4, E3, E2, E5, rawX, deadX, ET, T, SB, List.not_mem_nil, ↓reduceIte, ne_eq, reduceCtorEq, Nat.reduceLT, Nat.reduceEqDiff, Nat.reduceAdd, Nat.reduceMul, Nat.reduceLeDiff, Nat.reduceDiv, Nat.reduceMod, Nat.reduceSub, Nat.reduceBEq, rn_len, chs_len, chs_cnt, ops_len, ops_cnt, List.length_map, Ch.x, St.rx, Opn.x, St.x, cut_rn, take_drop_len, List.length_append, List.length_take, List.length_drop, ← rn_app, Int.sub_zero, St.x]
       done)
end Go.Proofs.YtdpflafjfkooeaaG
/- A22: what Apply leaves may be. -/
namespace Go.Proofs.YtdpflafjfkooeaaG
open Go Go.RowKit Go.Proofs
set_option linter.unusedSimpArgs false
set_option linter.unusedVariables false
theorem app_some {s : St} {o : Opn} (h : (appF s o).2 = 0) : ∃ c, effF s o = (c, 0) := by
  have h0 := app_zero h
  exact ⟨(effF s o).1, by rw [← h0]⟩
theorem right_app {s : St} {o : Opn} (hs : s.ok) (ho : o.ok) (h : (appF s o).2 = 0) : rightF (appF s o).1 = 0 := by
  obtain ⟨c, hI⟩ := app_some h
  obtain ⟨g1, g2, g3⟩ := eff_good hs ho hI
  obtain ⟨z1, z2, z3, z4, z5⟩ := right_zero (eff_zero hI)
  obtain ⟨u1, u2⟩ := undone g1
  unfold appF
  rw [hI, if_neg (fun h => h rfl)]
  split
  · rename_i hk
    have hl := eff_undo hI hk
    have hv := eff_undo_val hI hk
    rw [show ((s.undo.length : Int) - 1).toNat = s.undo.length - 1 by omega] at hv
    refine right_of g3 (by simp; omega) (scal_done g1 z3) ?_ ?_
    · have := walk_head (l := s.undo.map Ch.inv) (by simpa using z4) (by simpa using hl)
      rw [List.length_map, getD_inv, hv, inv_inv] at this
      rw [List.map_take, List.length_take, Nat.min_eq_left (by omega), walk_take (Nat.le_refl _)]
      exact this.2.2
    · show walkN (s.redo ++ [c.inv]) (s.redo ++ [c.inv]).length (c.done s.text) = true
      rw [List.length_append, List.length_cons, List.length_nil, walk_snoc, u2, decide_eq_true ⟨u1, z1⟩, z5]; rfl
  · split
    · rename_i hk3 hk
      have hl := eff_redo hI hk
      have hv := eff_redo_val hI hk
      rw [show ((s.redo.length : Int) - 1).toNat = s.redo.length - 1 by omega] at hv
      refine right_of g3 (by simp; omega) (scal_done g1 z3) ?_ ?_
      · show walkN ((s.undo ++ [c]).map Ch.inv) (s.undo ++ [c]).length (c.done s.text) = true
        rw [List.map_append, List.length_append, List.length_cons, List.length_nil]
        have := walk_snoc (l := s.undo.map Ch.inv) (x := c.inv) (t := c.done s.text)
        rw [List.length_map] at this
        show walkN (s.undo.map Ch.inv ++ [c.inv]) (s.undo.length + 1) _ = true
        rw [this, u2, decide_eq_true ⟨u1, z1⟩, z4]; rfl
      · have := walk_head z5 hl
        rw [hv] at this
        show walkN (s.redo.take (s.redo.length - 1)) (s.redo.take (s.redo.length - 1)).length (c.done s.text) = true
        rw [List.length_take, Nat.min_eq_left (by omega), walk_take (Nat.le_refl _)]
        exact this.2.2
    · rename_i hk3 hk4
      have hw : walkN ((s.undo ++ [c]).map Ch.inv) (s.undo.length + 1) (c.done s.text) = true := by
        have := walk_snoc (l := s.undo.map Ch.inv) (x := c.inv) (t := c.done s.text)
        rw [List.length_map] at this
        rw [List.map_append]
        show walkN (s.undo.map Ch.inv ++ [c.inv]) (s.undo.length + 1) _ = true
        rw [this, u2, decide_eq_true ⟨u1, z1⟩, z4]; rfl
      refine right_of g3 ?_ (scal_done g1 z3) ?_ rfl
      · show (if _ then _ else _ : List Ch).length + 0 ≤ 16
        split <;> simp <;> omega
      · show walkN ((if s.undo.length + 1 > 16 then (s.undo ++ [c]).drop 1 else s.undo ++ [c]).map Ch.inv) (if s.undo.length + 1 > 16 then (s.undo ++ [c]).drop 1 else s.undo ++ [c]).length (c.done s.text) = true
        split
        · rw [List.map_drop, List.length_drop, List.length_append, List.length_cons, List.length_nil]
          exact walk_drop hw
        · rw [List.length_append, List.length_cons, List.length_nil]; exact hw
end Go.Proofs.YtdpflafjfkooeaaG
/- R4: what is written by operations may be. -/
namespace Go.Proofs.YtdpflafjfkooeaaG
open Go Go.RowKit Go.Proofs
set_option linter.unusedSimpArgs false
set_option linter.unusedVariables false
theorem wrN_right {l : List Opn} (h : ∀ o ∈ l, R32s o.text) : ∀ k, k ≤ l.length → rightF (wrN l k) = 0
  | 0, _ => by kernel_rfl
  | k + 1, hk => by
    show rightF (stepW _ _) = 0
    unfold stepW
    split
    · rename_i h0
      exact right_app (wrN_ok h k (by omega)) (cutO_ok (h _ (memO (by omega)))) h0
    · exact wrN_right h k (by omega)
end Go.Proofs.YtdpflafjfkooeaaG
