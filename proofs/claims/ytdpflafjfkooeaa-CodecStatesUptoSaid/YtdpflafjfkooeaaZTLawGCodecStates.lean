/- YtdpflafjfkooeaaZTLawGCodecStates: a part of the proof, joined of its texts. -/
import Derived.Test.YtdpflafjfkooeaaZ24
namespace Go.Proofs.YtdpflafjfkooeaaG
open Go Go.RowKit Go.Proofs
set_option linter.unusedSimpArgs false
set_option linter.unusedVariables false
set_option maxRecDepth 10000 in
set_option maxHeartbeats 4000000 in
theorem copy_ok (s : St) (hs : s.small) : CallOk Try.prog 12 [s.x] s.x [] false := by
  obtain ⟨ht, hu, hr, hul, hrl⟩ := hs
  refine fn_ok' T_ok (orc_ok _) mixed Try.func12 rfl (by kernel_rfl) (lv [[1, 2, 1000002], [1, 2, 3], [1, 2, 3, 4], [1, 2, 3, 4, 15], [1, 2, 3, 4], [1, 2, 3, 4], [1, 2, 3, 5], [1, 2, 3, 5, 34], [1, 2, 3, 5], [1, 2, 3, 5], [2, 1000002]]) 50 rfl (by simp) rfl (by simp) ?_
  simp only [argsG, Nat.zero_add, Nat.reduceAdd, St.x]
  repeat' first
    | ((first
        | ((with_reducible refine vR_cons (by decide) ?_); generalize hk : KtR _ _ _ _ _ _ _ _ _ _ = k)
        | ((first
        | with_reducible refine vOps_cons' ?_) <;> generalize hk : Kt _ _ _ _ _ _ _ _ _ = k)) <;> (simp only [Try.f12, lv, E1, E2, E5, ET, T, orc_mv, noO_mv, mvB, orc_bx, noO_bx, bxB, fwd, fwds, inv, mOk, Int.toNat_natCast, Nat.div_one, Nat.mul_one, Int.reduceToNat, SB, List.not_mem_nil, ↓reduceIte, ne_eq, reduceCtorEq, Nat.reduceLT, Nat.reduceEqDiff, Nat.reduceAdd, Nat.reduceMul, Nat.reduceLeDiff, Nat.reduceDiv, Nat.reduceMod, Nat.reduceSub, Nat.reduceBEq, rn_len, chs_len, chs_cnt, List.length_map, Ch.inv, St.x]; (try simp (disch := omega) only [wrap_in, Int.toNat_natCast, tv_rn, tv_ch0, tv_ch1, tv_ch2]); subst hk))
    | with_reducible first | refine Kt_p ?_ | refine Kt_i (by kernel_rfl) ?_ | refine Kr_f (by kernel_rfl) ?_
    | (with_reducible refine Kr_t ?_; simp only [List.length_append, List.length_cons, List.length_nil, Nat.reduceAdd, Nat.reduceSub, List.drop_succ_cons, List.drop_zero])
    | with_reducible first | refine vR_nil ?_ | refine KtR_i (by kernel_rfl) ?_ | refine KrR_i (by kernel_rfl) ?_ | refine vR_skip (by decide) ?_
    | ((with_reducible refine vB_i ?_ ?_) <;> intro _ <;> (first | (exfalso; omega) | (exact absurd trivial ‹¬True›) | (try dsimp only [])))
    | ((with_reducible refine vOps_nil' ?_); refine Kr_i (by kernel_rfl) ?_; generalize hk : plain _ _ = G; simp only [lv, E3, E2, E5, rawX, deadX, SB, List.not_mem_nil, ↓reduceIte, ne_eq, reduceCtorEq, Nat.reduceLT, Nat.reduceEqDiff, Nat.reduceAdd, Nat.reduceMul, Nat.reduceLeDiff, Nat.reduceDiv, Nat.reduceMod, Nat.reduceSub, Nat.reduceBEq, rn_len, chs_len, chs_cnt, List.length_map, Ch.inv, St.x] at hk; subst hk)
    | with_reducible refine vSeq_i ?_
    | with_reducible first | refine vRegion_i (by kernel_rfl) ?_ | refine Kv_i ?_
    | ((with_reducible apply vStrK_i); (focus (rfl; done)))
    | ((with_reducible refine imp_i ?_); intro _)
    | with_reducible first | refine Ks_n ?_ | refine Ks_r ?_ | refine Ks_e ?_ | refine Kl_e ?_ | refine Kx_n ?_ | refine Kl_r ?_ | refine vRet_i ?_ | refine vSkip_i ?_ | refine vExit_i ?_ | refine vBlock_i ?_ | refine Ks_p ?_ | refine Kl_p ?_ | refine blk_p ?_ | exact Kb_p | refine vGoto_i ?_ | refine vLabel_i ?_ | refine Ks_g ?_ | refine Kl_g ?_ | refine blk_g ?_ | refine jmp_g ?_ | refine jmp_n ?_ | refine jmp_r ?_ | refine nog_n ?_ | refine nog_r ?_ | refine blk_n ?_ | refine blk_r ?_ | refine blk_e ?_ | refine blk_o (by decide) ?_ | refine cp_t ?_ | refine cp_f ?_
    | ((with_reducible apply vCond_x); (focus (simp only [lv, E1, E2, E5, ET, T, orc_mv, noO_mv, mvB, orc_bx, noO_bx, bxB, fwd, fwds, inv, mOk, Int.toNat_natCast, Nat.div_one, Nat.mul_one, Int.reduceToNat, SB, List.not_mem_nil, ↓reduceIte, ne_eq, reduceCtorEq, Nat.reduceLT, Nat.reduceEqDiff, Nat.reduceAdd, Nat.reduceMul, Nat.reduceLeDiff, Nat.reduceDiv, Nat.reduceMod, Nat.reduceSub, Nat.reduceBEq, rn_len, chs_len, chs_cnt, List.length_map, Ch.inv, St.x]; with_reducible first | exact Eq.refl (bo true) | exact Eq.refl (bo false))))
    | ((with_reducible refine And.intro ?_ ?_); (focus (try omega)))
  all_goals try omega
  refine vLoop_s (fun k : Nat => [(.t 1, .t (.p (.one (.pr 0 0)))), (.t 2, .t (.p (.one (.pr 1 0)))), (.t 3, .t (.p (.one (.pr 2 0)))), (.t 4, .t (i64 k)), (.box 0, .box 25 [.v (.sl 1 (rn s.text)), .v (.sl 3 (chs s.undo)), .v (.sl 3 (chs s.redo))]), (.box 1, .box 25 [.v (.sl 1 []), .v (.sl 3 []), .v (.sl 3 [])]), (.box 2, .box 25 [.sr 3, .sr 4, .sr 5]), (.row 3, .row 21 1 (rn s.text)), (.row 4, .row 67 3 (chs (s.undo.take k))), (.row 5, .row 67 3 [])]) (fun k => k ≤ s.undo.length) (fun k => s.undo.length - k) 0 (by omega) (by simp only [List.take_zero, chs_nil]; rfl) ?_
  intro k hk
  repeat' first
    | ((first
        | ((with_reducible refine vR_cons (by decide) ?_); generalize hk : KtR _ _ _ _ _ _ _ _ _ _ = k)
        | ((first
        | with_reducible refine vOps_cons' ?_
        | ((with_reducible apply orc_i); (focus (exact turned_ok (s.undo.getD k noCh) (hu _ (mem_getD (by omega))); done)))
        | ((with_reducible apply orc_i); (focus (exact turned_ok (Ch.inv (s.undo.getD k noCh)) (And.symm (hu _ (mem_getD (by omega)))); done)))) <;> generalize hk : Kt _ _ _ _ _ _ _ _ _ = k)) <;> (simp only [Try.f12, lv, E1, E2, E5, ET, T, orc_mv, noO_mv, mvB, orc_bx, noO_bx, bxB, fwd, fwds, inv, mOk, Int.toNat_natCast, Nat.div_one, Nat.mul_one, Int.reduceToNat, SB, List.not_mem_nil, ↓reduceIte, ne_eq, reduceCtorEq, Nat.reduceLT, Nat.reduceEqDiff, Nat.reduceAdd, Nat.reduceMul, Nat.reduceLeDiff, Nat.reduceDiv, Nat.reduceMod, Nat.reduceSub, Nat.reduceBEq, rn_len, chs_len, chs_cnt, List.length_map, Ch.inv, St.x]; (try simp (disch := omega) only [wrap_in, Int.toNat_natCast, tv_rn, tv_ch0, tv_ch1, tv_ch2]); subst hk))
    | with_reducible first | refine Kt_p ?_ | refine Kt_i (by kernel_rfl) ?_ | refine Kr_f (by kernel_rfl) ?_
    | (with_reducible refine Kr_t ?_; simp only [List.length_append, List.length_cons, List.length_nil, Nat.reduceAdd, Nat.reduceSub, List.drop_succ_cons, List.drop_zero])
    | with_reducible first | refine vR_nil ?_ | refine KtR_i (by kernel_rfl) ?_ | refine KrR_i (by kernel_rfl) ?_ | refine vR_skip (by decide) ?_
    | ((with_reducible refine vB_i ?_ ?_) <;> intro _ <;> (first | (exfalso; omega) | (exact absurd trivial ‹¬True›) | (try dsimp only [])))
    | ((with_reducible refine vOps_nil' ?_); refine Kr_i (by kernel_rfl) ?_; generalize hk : plain _ _ = G; simp only [lv, E3, E2, E5, rawX, deadX, SB, List.not_mem_nil, ↓reduceIte, ne_eq, reduceCtorEq, Nat.reduceLT, Nat.reduceEqDiff, Nat.reduceAdd, Nat.reduceMul, Nat.reduceLeDiff, Nat.reduceDiv, Nat.reduceMod, Nat.reduceSub, Nat.reduceBEq, rn_len, chs_len, chs_cnt, List.length_map, Ch.inv, St.x] at hk; subst hk)
    | with_reducible refine vSeq_i ?_
    | with_reducible first | refine vRegion_i (by kernel_rfl) ?_ | refine Kv_i ?_
    | ((with_reducible apply vStrK_i); (focus (rfl; done)))
    | ((with_reducible refine imp_i ?_); intro _)
    | with_reducible first | refine Ks_n ?_ | refine Ks_r ?_ | refine Ks_e ?_ | refine Kl_e ?_ | refine Kx_n ?_ | refine Kl_r ?_ | refine vRet_i ?_ | refine vSkip_i ?_ | refine vExit_i ?_ | refine vBlock_i ?_ | refine Ks_p ?_ | refine Kl_p ?_ | refine blk_p ?_ | exact Kb_p | refine vGoto_i ?_ | refine vLabel_i ?_ | refine Ks_g ?_ | refine Kl_g ?_ | refine blk_g ?_ | refine jmp_g ?_ | refine jmp_n ?_ | refine jmp_r ?_ | refine nog_n ?_ | refine nog_r ?_ | refine blk_n ?_ | refine blk_r ?_ | refine blk_e ?_ | refine blk_o (by decide) ?_ | refine cp_t ?_ | refine cp_f ?_
    | ((with_reducible apply vCond_x); (focus (simp only [lv, E1, E2, E5, ET, T, orc_mv, noO_mv, mvB, orc_bx, noO_bx, bxB, fwd, fwds, inv, mOk, Int.toNat_natCast, Nat.div_one, Nat.mul_one, Int.reduceToNat, SB, List.not_mem_nil, ↓reduceIte, ne_eq, reduceCtorEq, Nat.reduceLT, Nat.reduceEqDiff, Nat.reduceAdd, Nat.reduceMul, Nat.reduceLeDiff, Nat.reduceDiv, Nat.reduceMod, Nat.reduceSub, Nat.reduceBEq, rn_len, chs_len, chs_cnt, List.length_map, Ch.inv, St.x]; with_reducible first | exact Eq.refl (bo true) | exact Eq.refl (bo false))))
    | ((with_reducible refine And.intro ?_ ?_); (focus (try omega)))
  all_goals try (simp only [cnt, List.length_append, List.length_cons, List.length_nil, chs_len, List.length_take]; omega)
  · refine Kl_n ⟨k + 1, by omega, by omega, ?_⟩
    rw [chs_take1 (by omega)]
    simp only [Int.natCast_add, Int.natCast_one]
  rename_i hlast
  rw [List.take_of_length_le (by omega)]
  refine vLoop_s (fun k : Nat => [(.t 1, .t (.p (.one (.pr 0 0)))), (.t 2, .t (.p (.one (.pr 1 0)))), (.t 3, .t (.p (.one (.pr 2 0)))), (.t 5, .t (i64 k)), (.box 0, .box 25 [.v (.sl 1 (rn s.text)), .v (.sl 3 (chs s.undo)), .v (.sl 3 (chs s.redo))]), (.box 1, .box 25 [.v (.sl 1 []), .v (.sl 3 []), .v (.sl 3 [])]), (.box 2, .box 25 [.sr 3, .sr 4, .sr 5]), (.row 3, .row 21 1 (rn s.text)), (.row 4, .row 67 3 (chs s.undo)), (.row 5, .row 67 3 (chs (s.redo.take k)))]) (fun k => k ≤ s.redo.length) (fun k => s.redo.length - k) 0 (by omega) (by simp only [List.take_zero, chs_nil]; rfl) ?_
  intro k hk
  repeat' first
    | ((first
        | ((with_reducible refine vR_cons (by decide) ?_); generalize hk : KtR _ _ _ _ _ _ _ _ _ _ = k)
        | ((first
        | with_reducible refine vOps_cons' ?_
        | ((with_reducible apply orc_i); (focus (exact turned_ok (s.redo.getD k noCh) (hr _ (mem_getD (by omega))); done)))
        | ((with_reducible apply orc_i); (focus (exact turned_ok (Ch.inv (s.redo.getD k noCh)) (And.symm (hr _ (mem_getD (by omega)))); done)))) <;> generalize hk : Kt _ _ _ _ _ _ _ _ _ = k)) <;> (simp only [Try.f12, lv, E1, E2, E5, ET, T, orc_mv, noO_mv, mvB, orc_bx, noO_bx, bxB, fwd, fwds, inv, mOk, Int.toNat_natCast, Nat.div_one, Nat.mul_one, Int.reduceToNat, SB, List.not_mem_nil, ↓reduceIte, ne_eq, reduceCtorEq, Nat.reduceLT, Nat.reduceEqDiff, Nat.reduceAdd, Nat.reduceMul, Nat.reduceLeDiff, Nat.reduceDiv, Nat.reduceMod, Nat.reduceSub, Nat.reduceBEq, rn_len, chs_len, chs_cnt, List.length_map, Ch.inv, St.x]; (try simp (disch := omega) only [wrap_in, Int.toNat_natCast, tv_rn, tv_ch0, tv_ch1, tv_ch2]); subst hk))
    | with_reducible first | refine Kt_p ?_ | refine Kt_i (by kernel_rfl) ?_ | refine Kr_f (by kernel_rfl) ?_
    | (with_reducible refine Kr_t ?_; simp only [List.length_append, List.length_cons, List.length_nil, Nat.reduceAdd, Nat.reduceSub, List.drop_succ_cons, List.drop_zero])
    | with_reducible first | refine vR_nil ?_ | refine KtR_i (by kernel_rfl) ?_ | refine KrR_i (by kernel_rfl) ?_ | refine vR_skip (by decide) ?_
    | ((with_reducible refine vB_i ?_ ?_) <;> intro _ <;> (first | (exfalso; omega) | (exact absurd trivial ‹¬True›) | (try dsimp only [])))
    | ((with_reducible refine vOps_nil' ?_); refine Kr_i (by kernel_rfl) ?_; generalize hk : plain _ _ = G; simp only [lv, E3, E2, E5, rawX, deadX, SB, List.not_mem_nil, ↓reduceIte, ne_eq, reduceCtorEq, Nat.reduceLT, Nat.reduceEqDiff, Nat.reduceAdd, Nat.reduceMul, Nat.reduceLeDiff, Nat.reduceDiv, Nat.reduceMod, Nat.reduceSub, Nat.reduceBEq, rn_len, chs_len, chs_cnt, List.length_map, Ch.inv, St.x] at hk; subst hk)
    | with_reducible refine vSeq_i ?_
    | with_reducible first | refine vRegion_i (by kernel_rfl) ?_ | refine Kv_i ?_
    | ((with_reducible apply vStrK_i); (focus (rfl; done)))
    | ((with_reducible refine imp_i ?_); intro _)
    | with_reducible first | refine Ks_n ?_ | refine Ks_r ?_ | refine Ks_e ?_ | refine Kl_e ?_ | refine Kx_n ?_ | refine Kl_r ?_ | refine vRet_i ?_ | refine vSkip_i ?_ | refine vExit_i ?_ | refine vBlock_i ?_ | refine Ks_p ?_ | refine Kl_p ?_ | refine blk_p ?_ | exact Kb_p | refine vGoto_i ?_ | refine vLabel_i ?_ | refine Ks_g ?_ | refine Kl_g ?_ | refine blk_g ?_ | refine jmp_g ?_ | refine jmp_n ?_ | refine jmp_r ?_ | refine nog_n ?_ | refine nog_r ?_ | refine blk_n ?_ | refine blk_r ?_ | refine blk_e ?_ | refine blk_o (by decide) ?_ | refine cp_t ?_ | refine cp_f ?_
    | ((with_reducible apply vCond_x); (focus (simp only [lv, E1, E2, E5, ET, T, orc_mv, noO_mv, mvB, orc_bx, noO_bx, bxB, fwd, fwds, inv, mOk, Int.toNat_natCast, Nat.div_one, Nat.mul_one, Int.reduceToNat, SB, List.not_mem_nil, ↓reduceIte, ne_eq, reduceCtorEq, Nat.reduceLT, Nat.reduceEqDiff, Nat.reduceAdd, Nat.reduceMul, Nat.reduceLeDiff, Nat.reduceDiv, Nat.reduceMod, Nat.reduceSub, Nat.reduceBEq, rn_len, chs_len, chs_cnt, List.length_map, Ch.inv, St.x]; with_reducible first | exact Eq.refl (bo true) | exact Eq.refl (bo false))))
    | ((with_reducible refine And.intro ?_ ?_); (focus (try omega)))
  all_goals try (simp only [cnt, List.length_append, List.length_cons, List.length_nil, chs_len, List.length_take]; omega)
  · refine Kl_n ⟨k + 1, by omega, by omega, ?_⟩
    rw [chs_take1 (by omega)]
    simp only [Int.natCast_add, Int.natCast_one]
  rename_i hlast
  rw [List.take_of_length_le (by omega)]
  refine Kf_r ?_
  simp only [Try.f12, E4, E3, E2, E5, rawX, deadX, ET, T, SB, List.not_mem_nil, ↓reduceIte, ne_eq, reduceCtorEq, Nat.reduceLT, Nat.reduceEqDiff, Nat.reduceAdd, Nat.reduceMul, Nat.reduceLeDiff, Nat.reduceDiv, Nat.reduceMod, Nat.reduceSub, Nat.reduceBEq, rn_len, chs_len, chs_cnt, List.length_map, Ch.inv, St.x, St.x]
end Go.Proofs.YtdpflafjfkooeaaG
/- L23: layer 23's laws at what came in: texts of numbers, operations, states, bytes. -/
namespace Go.Proofs.YtdpflafjfkooeaaG
open Go Go.RowKit Go.Proofs Go.Proofs.Ytdpflafjfkooeaa Go.Proofs.YtdpflafjfkooeaaG.Dec
set_option linter.unusedVariables false
set_option linter.unusedSimpArgs false
theorem u8b {m : Int} (h : IntKind.u8.min ≤ m ∧ m ≤ IntKind.u8.max) : 0 ≤ m ∧ m ≤ 255 := by
  have h1 : IntKind.u8.min = 0 := by decide
  have h2 : IntKind.u8.max = 255 := by decide
  rw [h1, h2] at h; exact h
theorem typ_bytes {n : Nat} {x : SV} (h : Typ T n 41 [x]) : ∃ l : List Int, x = .sl 1 (bs l) ∧ Bytes l ∧ l.length ≤ n := by
  obtain ⟨l, e, h1, h2⟩ := h.ints (by rfl) (by rfl)
  simp only [List.cons.injEq, and_true] at e
  exact ⟨l, e, fun m hm => u8b (h1 m hm), h2⟩
theorem typ_int23 {n : Nat} {x : SV} (h : Typ T n 3 [x]) : ∃ m : Int, x = .raw (.int .i64 m) := by
  obtain ⟨m, e, _⟩ := h.int' (by rfl)
  simp only [List.cons.injEq, and_true] at e
  exact ⟨m, e⟩
end Go.Proofs.YtdpflafjfkooeaaG
/- R3: the document's reader, in plain Lean, comes to what the readings come to. -/
namespace Go.Proofs.YtdpflafjfkooeaaG
open Go Go.RowKit Go.Proofs Go.Proofs.YtdpflafjfkooeaaG.Dec
set_option linter.unusedSimpArgs false
set_option linter.unusedVariables false
abbrev RS := Nat × Int
def tkS (B : List Int) (s : RS) (n : Int) : List Int × RS := if s.2 = 0 then (if n ≤ (B.length : Int) - s.1 then ((B.drop s.1).take n.toNat, (s.1 + n.toNat, 0)) else ([], (s.1, 20))) else ([], s)
theorem tk_ok {B s n} (h : s.2 = 0) (h1 : n ≤ (B.length : Int) - s.1) : tkS B s n = ((B.drop s.1).take n.toNat, (s.1 + n.toNat, 0)) := by unfold tkS; rw [if_pos h, if_pos h1]
theorem tk_short {B s n} (h : s.2 = 0) (h1 : ¬ n ≤ (B.length : Int) - s.1) : tkS B s n = ([], (s.1, 20)) := by unfold tkS; rw [if_pos h, if_neg h1]
theorem tk_err {B s n} (h : ¬ s.2 = 0) : tkS B s n = ([], s) := if_neg h
def numS (B : List Int) (s : RS) : Int × RS := if (tkS B s 4).2.2 = 0 then (numR (tkS B s 4).1, ((tkS B s 4).2.1, if numR (tkS B s 4).1 > 2147483647 then 50 else 0)) else (0, (tkS B s 4).2)
theorem nu_ok {B s} (h : s.2 = 0) (h1 : 4 ≤ (B.length : Int) - s.1) (h2 : ¬ numR (B.drop s.1) > 2147483647) : numS B s = (numR (B.drop s.1), (s.1 + 4, 0)) := by
  unfold numS; rw [tk_ok h h1]
  simp only [show (4 : Int).toNat = 4 from rfl, numR_take, if_true]
  rw [if_neg h2]
theorem nu_big {B s} (h : s.2 = 0) (h1 : 4 ≤ (B.length : Int) - s.1) (h2 : numR (B.drop s.1) > 2147483647) : numS B s = (numR (B.drop s.1), (s.1 + 4, 50)) := by
  unfold numS; rw [tk_ok h h1]
  simp only [show (4 : Int).toNat = 4 from rfl, numR_take, if_true]
  rw [if_pos h2]
theorem nu_short {B s} (h : s.2 = 0) (h1 : ¬ 4 ≤ (B.length : Int) - s.1) : numS B s = (0, (s.1, 20)) := by
  unfold numS; rw [tk_short h h1]
  rfl
theorem nu_err {B s} (h : ¬ s.2 = 0) : numS B s = (0, s) := by
  unfold numS; rw [tk_err h]
  exact if_neg h
/-- So many bytes as a text. -/
def txS (B : List Int) (n : Int) (s : RS) : List Int × RS := ((dec (tkS B s n).1).1, ((tkS B s n).2.1, if (tkS B s n).2.2 = 0 then (dec (tkS B s n).1).2.2 else (tkS B s n).2.2))
def textS (B : List Int) (s : RS) : List Int × RS := txS B (numS B s).1 (numS B s).2
def lsN (B : List Int) : Nat → RS → List Ch × RS
  | 0, s => ([], s)
  | k + 1, s => if s.2 = 0 then (⟨(numS B s).1, (textS B (numS B s).2).1, (textS B (textS B (numS B s).2).2).1⟩ :: (lsN B k (textS B (textS B (numS B s).2).2).2).1, (lsN B k (textS B (textS B (numS B s).2).2).2).2) else ([], s)
def listS (B : List Int) (s : RS) : List Ch × RS := if (tkS B s 1).2.2 = 0 then lsN B (rd (tkS B s 1).1 0).toNat (tkS B s 1).2 else ([], (tkS B s 1).2)
/-! ### bounds -/
theorem tk_at {B s n} (h : s.1 ≤ B.length) : (tkS B s n).2.1 ≤ B.length := by
  by_cases h0 : s.2 = 0
  · by_cases h1 : n ≤ (B.length : Int) - s.1
    · rw [tk_ok h0 h1]; show s.1 + n.toNat ≤ _; omega
    · rw [tk_short h0 h1]; exact h
  · rw [tk_err h0]; exact h
theorem tk_byt {B s k} {n : Int} (h : BytN k B) : BytN k (tkS B s n).1 := by
  by_cases h0 : s.2 = 0
  · by_cases h1 : n ≤ (B.length : Int) - s.1
    · rw [tk_ok h0 h1]; exact (h.drop _).take _
    · rw [tk_short h0 h1]; exact ⟨fun x hx => by simp at hx, Nat.zero_le _⟩
  · rw [tk_err h0]; exact ⟨fun x hx => by simp at hx, Nat.zero_le _⟩
theorem numR_le {xs : List Int} (h : Bytes xs) : numR xs ≤ 4294967295 := by
  have b0 := rd_bd h 0; have b1 := rd_bd h 1; have b2 := rd_bd h 2; have b3 := rd_bd h 3
  unfold numR
  omega
theorem nu_bd {B s} (hB : Bytes B) (h : s.1 ≤ B.length) : 0 ≤ (numS B s).1 ∧ (numS B s).1 ≤ 4294967295 ∧ (numS B s).2.1 ≤ B.length := by
  have n0 := numR_nn (hB.drop s.1)
  have n1 := numR_le (hB.drop s.1)
  by_cases h0 : s.2 = 0
  · by_cases h1 : 4 ≤ (B.length : Int) - s.1
    · by_cases h2 : numR (B.drop s.1) > 2147483647
      · rw [nu_big h0 h1 h2]; exact ⟨n0, n1, by show s.1 + 4 ≤ _; omega⟩
      · rw [nu_ok h0 h1 h2]; exact ⟨n0, n1, by show s.1 + 4 ≤ _; omega⟩
    · rw [nu_short h0 h1]; exact ⟨by omega, by show (0 : Int) ≤ _; omega, h⟩
  · rw [nu_err h0]; exact ⟨by omega, by show (0 : Int) ≤ _; omega, h⟩
theorem text_at {B s} (hB : Bytes B) (h : s.1 ≤ B.length) : (textS B s).2.1 ≤ B.length := tk_at (nu_bd hB h).2.2
theorem textS_txt {B s k} (h : BytN k B) : TxtOk k (textS B s).1 := dec_txt (tk_byt h)
theorem lsN_at {B} (hB : Bytes B) : ∀ (k : Nat) (s : RS), s.1 ≤ B.length → (lsN B k s).2.1 ≤ B.length
  | 0, s, h => h
  | k + 1, s, h => by
    unfold lsN
    split
    · exact lsN_at hB k _ (text_at hB (text_at hB (nu_bd hB h).2.2))
    · exact h
theorem list_at {B s} (hB : Bytes B) (h : s.1 ≤ B.length) : (listS B s).2.1 ≤ B.length := by
  unfold listS
  split
  · exact lsN_at hB _ _ (tk_at h)
  · exact tk_at h
theorem lsN_ok {B n} (hB : BytN n B) : ∀ (k : Nat) (s : RS), (lsN B k s).1.length ≤ k ∧ ∀ c ∈ (lsN B k s).1, ChTxt n c
  | 0, s => ⟨Nat.le_refl _, fun c hc => by simp [lsN] at hc⟩
  | k + 1, s => by
    unfold lsN
    split
    · have ih := lsN_ok hB k (textS B (textS B (numS B s).2).2).2
      refine ⟨by simp only [List.length_cons]; omega, fun c hc => ?_⟩
      rcases List.mem_cons.1 hc with rfl | hc
      · exact ⟨textS_txt hB, textS_txt hB⟩
      · exact ih.2 c hc
    · exact ⟨Nat.zero_le _, fun c hc => by simp at hc⟩
theorem listS_ok {B s n} (hB : BytN n B) : (listS B s).1.length ≤ 255 ∧ ∀ c ∈ (listS B s).1, ChTxt n c := by
  unfold listS
  split
  · have h := lsN_ok hB (rd (tkS B s 1).1 0).toNat (tkS B s 1).2
    have b := rd_bd (tk_byt (s := s) (n := 1) hB).bytes 0
    exact ⟨by omega, h.2⟩
  · exact ⟨Nat.zero_le _, fun c hc => by simp at hc⟩
/-! ### the readings -/
/-- A reader's step is a reading. -/
def Sim {α : Type} (B : List Int) (f : RS → α × RS) (R : List Int → RR α) : Prop := ∀ s : RS, s.1 ≤ B.length → (f s).2.1 ≤ B.length ∧ (s.2 ≠ 0 → (f s).2.2 = s.2) ∧ (s.2 = 0 → match R (B.drop s.1) with
  | .ok a r => (f s).1 = a ∧ (f s).2.2 = 0 ∧ B.drop (f s).2.1 = r
  | .bad e => (f s).2.2 = e ∧ e ≠ 0)
theorem Sim.bind {α β : Type} {B f} {R : List Int → RR α} {g : α → RS → β × RS} {S : α → List Int → RR β} (h : Sim B f R) (h2 : ∀ a, Sim B (g a) (S a)) : Sim B (fun s => g (f s).1 (f s).2) (fun xs => (R xs).bind S) := by
  intro s hs
  obtain ⟨a1, a2, a3⟩ := h s hs
  obtain ⟨b1, b2, b3⟩ := h2 (f s).1 (f s).2 a1
  refine ⟨b1, fun h0 => ?_, fun h0 => ?_⟩
  · have q := a2 h0
    show (g (f s).1 (f s).2).2.2 = _
    rw [b2 (by rw [q]; exact h0), q]
  · have q := a3 h0
    show match (R (B.drop s.1)).bind S with | .ok a r => _ | .bad e => _
    cases hr : R (B.drop s.1) with
    | ok a r =>
      rw [hr] at q
      obtain ⟨rfl, q2, rfl⟩ := q
      rw [RR.bind_okE]
      exact b3 q2
    | bad e =>
      rw [hr] at q
      rw [RR.bind_badE]
      obtain ⟨q1, q2⟩ := q
      exact ⟨by show (g (f s).1 (f s).2).2.2 = e; rw [b2 (by rw [q1]; exact q2), q1], q2⟩
theorem Sim.pure {α : Type} {B} (a : α) : Sim B (fun s => (a, s)) (fun xs => .ok a xs) := fun s hs => ⟨hs, fun _ => rfl, fun h => ⟨rfl, h, rfl⟩⟩
theorem Sim.congr {α : Type} {B f} {R S : List Int → RR α} (h : Sim B f S) (hB : Bytes B) (e : ∀ xs, Bytes xs → R xs = S xs) : Sim B f R := fun s hs => by
  obtain ⟨a1, a2, a3⟩ := h s hs
  refine ⟨a1, a2, fun h0 => ?_⟩
  rw [e _ (hB.drop _)]
  exact a3 h0
theorem sim_num {B} (hB : Bytes B) : Sim B (numS B) readNum := by
  intro s hs
  refine ⟨(nu_bd hB hs).2.2, fun h0 => by rw [nu_err h0], fun h0 => ?_⟩
  rw [readNum_if]
  by_cases h1 : 4 ≤ (B.length : Int) - s.1
  · rw [if_neg (by rw [List.length_drop]; omega)]
    by_cases h2 : numR (B.drop s.1) > 2147483647
    · rw [nu_big h0 h1 h2, if_pos h2]; exact ⟨rfl, by decide⟩
    · rw [nu_ok h0 h1 h2, if_neg h2]; exact ⟨rfl, rfl, by rw [List.drop_drop]⟩
  · rw [nu_short h0 h1, if_pos (by rw [List.length_drop]; omega)]
    exact ⟨rfl, by decide⟩
theorem sim_tx {B} (hB : Bytes B) (n : Int) : Sim B (txS B n) (readText n) := by
  intro s hs
  refine ⟨tk_at hs, fun h0 => ?_, fun h0 => ?_⟩
  · unfold txS
    rw [tk_err h0]
    exact if_neg h0
  · unfold readText
    by_cases h1 : n ≤ (B.length : Int) - s.1
    · rw [if_pos (by rw [List.length_drop]; omega)]
      unfold txS
      rw [tk_ok h0 h1]
      by_cases h2 : (dec ((B.drop s.1).take n.toNat)).2.2 = 0
      · rw [if_pos h2]
        exact ⟨rfl, by show (if (0 : Int) = 0 then (dec ((B.drop s.1).take n.toNat)).2.2 else (0 : Int)) = 0; rw [if_pos rfl]; exact h2, by show B.drop (s.1 + n.toNat) = _; rw [List.drop_drop]⟩
      · rw [if_neg h2]
        exact ⟨by show (if (0 : Int) = 0 then (dec ((B.drop s.1).take n.toNat)).2.2 else (0 : Int)) = _; rw [if_pos rfl], h2⟩
    · rw [if_neg (by rw [List.length_drop]; omega)]
      unfold txS
      rw [tk_short h0 h1]
      exact ⟨rfl, by decide⟩
theorem sim_text {B} (hB : Bytes B) : Sim B (textS B) fun xs => (readNum xs).bind fun n r => readText n r := (sim_num hB).bind (g := fun n s => txS B n s) fun n => sim_tx hB n
theorem sim_N {B} (hB : Bytes B) : ∀ k, Sim B (lsN B k) (readN k)
  | 0 => Sim.pure []
  | k + 1 => by
    have hc : Sim B (fun s : RS => ((⟨(numS B s).1, (textS B (numS B s).2).1, (textS B (textS B (numS B s).2).2).1⟩ : Ch) :: (lsN B k (textS B (textS B (numS B s).2).2).2).1, (lsN B k (textS B (textS B (numS B s).2).2).2).2)) (readN (k + 1)) := by
      refine Sim.congr (S := fun xs => (readNum xs).bind fun a r => ((readNum r).bind fun n r => readText n r).bind fun g r => ((readNum r).bind fun n r => readText n r).bind fun c r => (readN k r).bind fun l r => .ok ((⟨a, g, c⟩ : Ch) :: l) r) ?_ hB ?_
      · exact (sim_num hB).bind (g := fun a s => ((⟨a, (textS B s).1, (textS B (textS B s).2).1⟩ : Ch) :: (lsN B k (textS B (textS B s).2).2).1, (lsN B k (textS B (textS B s).2).2).2)) fun a =>
          (sim_text hB).bind (g := fun g s => ((⟨a, g, (textS B s).1⟩ : Ch) :: (lsN B k (textS B s).2).1, (lsN B k (textS B s).2).2)) fun g =>
          (sim_text hB).bind (g := fun c s => ((⟨a, g, c⟩ : Ch) :: (lsN B k s).1, (lsN B k s).2)) fun c =>
          (sim_N hB k).bind (g := fun l s => ((⟨a, g, c⟩ : Ch) :: l, s)) fun l => Sim.pure _
      · intro xs hx
        rw [readN_eq, readCh_eq hx]
        unfold readChB
        simp only [RR.bind_assoc, RR.bind_okE]
    intro s hs
    obtain ⟨a1, a2, a3⟩ := hc s hs
    refine ⟨lsN_at hB _ _ hs, fun h0 => ?_, fun h0 => ?_⟩
    · show (lsN B (k + 1) s).2.2 = _
      unfold lsN
      rw [if_neg h0]
    · have e : lsN B (k + 1) s = ((⟨(numS B s).1, (textS B (numS B s).2).1, (textS B (textS B (numS B s).2).2).1⟩ : Ch) :: (lsN B k (textS B (textS B (numS B s).2).2).2).1, (lsN B k (textS B (textS B (numS B s).2).2).2).2) := by
        conv => lhs; unfold lsN
        rw [if_pos h0]
      rw [e]
      exact a3 h0
theorem sim_list {B} (hB : Bytes B) : Sim B (listS B) readChs := by
  intro s hs
  have ha := tk_at (n := 1) hs
  refine ⟨list_at hB hs, fun h0 => ?_, fun h0 => ?_⟩
  · unfold listS
    rw [tk_err h0]
    rw [if_neg h0]
  · rw [readChs_eq]
    unfold readCnt
    by_cases h1 : 1 ≤ (B.length : Int) - s.1
    · rw [if_neg (by rw [List.length_drop]; omega), RR.bind_okE]
      have e : listS B s = lsN B (rd (B.drop s.1) 0).toNat (s.1 + 1, 0) := by
        unfold listS
        rw [tk_ok h0 h1]
        show (if (0 : Int) = 0 then _ else _) = _
        rw [if_pos rfl]
        congr 2
        simp [rd, List.getD, List.getElem?_take]
      rw [e, List.drop_drop]
      exact (sim_N hB _ (s.1 + 1, 0) (by show s.1 + 1 ≤ _; omega)).2.2 rfl
    · rw [if_pos (by rw [List.length_drop]; omega), RR.bind_badE]
      unfold listS
      rw [tk_short h0 h1]
      exact ⟨rfl, by decide⟩
/-- A state, by the document's reader. -/
def rrE (B : List Int) (v : RS) (s : St) : Int := if v.2 = 0 then (if v.1 < B.length then 50 else rightF s) else v.2
def rrT (B : List Int) : List Int × RS := textS B (numS B (0, 0)).2
def rrU (B : List Int) : List Ch × RS := listS B (rrT B).2
def rrV (B : List Int) : List Ch × RS := listS B (rrU B).2
def rrSt (B : List Int) : St := ⟨(rrT B).1, (rrU B).1, (rrV B).1⟩
def rrF (B : List Int) : Int × St × Int := if rrE B (rrV B).2 (rrSt B) = 0 then ((numS B (0, 0)).1, rrSt B, 0) else (0, st00, rrE B (rrV B).2 (rrSt B))
theorem rr_eq {B : List Int} (hB : Bytes B) : rrF B = readStF B := by
  have hc : Sim B (fun s : RS => (((numS B s).1, (⟨(textS B (numS B s).2).1, (listS B (textS B (numS B s).2).2).1, (listS B (listS B (textS B (numS B s).2).2).2).1⟩ : St)), (listS B (listS B (textS B (numS B s).2).2).2).2)) readSt0 := by
    refine Sim.congr (S := fun xs => (readNum xs).bind fun a r => ((readNum r).bind fun n r => readText n r).bind fun t r => (readChs r).bind fun u r => (readChs r).bind fun v r => .ok (a, (⟨t, u, v⟩ : St)) r) ?_ hB ?_
    · exact (sim_num hB).bind (g := fun a s => ((a, (⟨(textS B s).1, (listS B (textS B s).2).1, (listS B (listS B (textS B s).2).2).1⟩ : St)), (listS B (listS B (textS B s).2).2).2)) fun a =>
        (sim_text hB).bind (g := fun t s => ((a, (⟨t, (listS B s).1, (listS B (listS B s).2).1⟩ : St)), (listS B (listS B s).2).2)) fun t =>
        (sim_list hB).bind (g := fun u s => ((a, (⟨t, u, (listS B s).1⟩ : St)), (listS B s).2)) fun u =>
        (sim_list hB).bind (g := fun v s => ((a, (⟨t, u, v⟩ : St)), s)) fun v => Sim.pure _
    · intro xs hx
      unfold readSt0
      simp only [RR.bind_assoc, RR.bind_okE]
  obtain ⟨a1, _, a3⟩ := hc (0, 0) (Nat.zero_le _)
  have a3 := a3 rfl
  rw [show B.drop (0, 0).1 = B from rfl] at a3
  cases q : readSt0 B with
  | bad e =>
    rw [q] at a3
    have a3 : (rrV B).2.2 = e ∧ e ≠ 0 := a3
    have e1 : readSt B = .bad e := by rw [readSt_eq, q]; rfl
    have e2 : rrE B (rrV B).2 (rrSt B) = e := by unfold rrE; rw [a3.1, if_neg a3.2]
    unfold rrF readStF
    rw [e1, e2, if_neg a3.2]
  | ok p r =>
    rw [q] at a3
    obtain ⟨n, s⟩ := p
    have a3 : ((numS B (0, 0)).1, rrSt B) = (n, s) ∧ (rrV B).2.2 = 0 ∧ B.drop (rrV B).2.1 = r := a3
    obtain ⟨q1, q2, q3⟩ := a3
    have q4 : rrSt B = s := (Prod.mk.inj q1).2
    have q5 : (numS B (0, 0)).1 = n := (Prod.mk.inj q1).1
    by_cases hr : r = []
    · have e1 : readSt B = .ok (n, s) r := by rw [readSt_eq, q, RR.bind_okE]; unfold readEnd; rw [if_pos hr]; rfl
      have hl : ¬ (rrV B).2.1 < B.length := by
        rw [hr] at q3
        have := congrArg List.length q3
        simp only [List.length_drop, List.length_nil] at this
        omega
      have e2 : rrE B (rrV B).2 (rrSt B) = rightF s := by unfold rrE; rw [if_pos q2, if_neg hl, q4]
      unfold rrF readStF
      rw [e1, e2, q4, q5]
    · have e1 : readSt B = .bad 50 := by rw [readSt_eq, q, RR.bind_okE]; unfold readEnd; rw [if_neg hr]; rfl
      have hl : (rrV B).2.1 < B.length := by
        have : r.length ≠ 0 := fun h => hr (List.eq_nil_of_length_eq_zero h)
        rw [← q3, List.length_drop] at this
        omega
      have e2 : rrE B (rrV B).2 (rrSt B) = 50 := by unfold rrE; rw [if_pos q2, if_pos hl]
      unfold rrF readStF
      rw [e1, e2, if_neg (by decide)]
theorem rr_ok {B : List Int} (g : BytN 100000 B) : (rrSt B).ok := by
  have u := listS_ok (s := (rrT B).2) g
  have v := listS_ok (s := (rrU B).2) g
  have t : TxtOk 100000 (rrT B).1 := textS_txt g
  exact ⟨t.len, t.run, fun c hc => chTxt_ok (u.2 c hc), fun c hc => chTxt_ok (v.2 c hc), by show (listS B (rrT B).2).1.length ≤ _; omega, by show (listS B (rrU B).2).1.length ≤ _; omega⟩
end Go.Proofs.YtdpflafjfkooeaaG
namespace Go.Proofs.YtdpflafjfkooeaaG
open Go Go.RowKit Go.Proofs Go.Proofs.YtdpflafjfkooeaaG.Dec
set_option linter.unusedSimpArgs false
set_option linter.unusedVariables false
/-- A reader: its bytes, where it is, its first error. -/
abbrev rbC (B : List Int) (s : RS) : List TV := [.v (.sl 1 (bs B)), .v (.raw (.int .i64 (s.1 : Int))), .v (.raw (.int .i64 s.2))]
theorem cut_bsr (l : List Int) (a : Nat) (n : Int) : cutSV 1 (bs l) (a : Int) ((a : Int) + n) = bs ((l.drop a).take n.toNat) := by
  have e : ((a : Int) + n - a).toNat = n.toNat := by omega
  simp [cutSV, bs, List.map_drop, List.map_take, e]
set_option maxRecDepth 10000 in
set_option maxHeartbeats 4000000 in
theorem rtake_ok (B : List Int) (s : RS) (n : Int) (h0 : 0 ≤ n) (hn : n ≤ 1000000000000) (hB : B.length ≤ 2000000) (hs : s.1 ≤ B.length) : CallB Try.prog 84 [(106, rbC B s)] [r0, i64 n] (.ret (sl (bs (tkS B s n).1)) [(106, rbC B (tkS B s n).2)]) := by
  obtain ⟨a, e⟩ := s
  simp only [] at hs
  by_cases h : e = 0
  · subst h
    by_cases h1 : n ≤ (B.length : Int) - a
    · rw [tk_ok rfl h1]
      refine fn_okB' T_ok (orc_ok _) mixed Try.func84 rfl (by kernel_rfl) (lv [[0, 1], [0, 1, 24], [0, 1], [0, 1, 32], [0, 4], [0, 1, 5], [0, 5], [0, 4]]) 58 rfl (by simp) (by simp [Out.ok, X.all, PX.all, TV.isV, TV.lent]) ?_
      simp only [lentL, argsG, Nat.zero_add, Nat.reduceAdd, List.cons_append, List.nil_append]
      repeat' first
        | ((first
            | ((with_reducible refine vR_cons (by decide) ?_); generalize hk : KtR _ _ _ _ _ _ _ _ _ _ = k)
            | ((first
            | with_reducible refine vOps_cons' ?_) <;> generalize hk : Kt _ _ _ _ _ _ _ _ _ = k)) <;> (simp only [Try.f84, lv, E1, E2, E5, ET, T, orc_mv, noO_mv, mvB, orc_bx, noO_bx, bxB, fwd, fwds, inv, mOk, Int.toNat_natCast, Nat.div_one, Nat.mul_one, Int.reduceToNat, SB, List.not_mem_nil, ↓reduceIte, ne_eq, reduceCtorEq, Nat.reduceLT, Nat.reduceEqDiff, Nat.reduceAdd, Nat.reduceMul, Nat.reduceLeDiff, Nat.reduceDiv, Nat.reduceMod, Nat.reduceSub, Nat.reduceBEq, List.length_map, List.length_take, List.length_drop, bs_len, rn_len, chs_len, chs_cnt, Int.sub_zero, Int.toNat_natCast, Int.reduceToNat, Int.natCast_zero, ← chs_snoc]; (try simp (disch := omega) only [wrap_in, Int.toNat_natCast, tv_rn, tv_bs, tv_bst]); subst hk))
        | with_reducible first | refine Kt_p ?_ | refine Kt_i (by kernel_rfl) ?_ | refine Kr_f (by kernel_rfl) ?_
        | (with_reducible refine Kr_t ?_; simp only [List.length_append, List.length_cons, List.length_nil, Nat.reduceAdd, Nat.reduceSub, List.drop_succ_cons, List.drop_zero])
        | with_reducible first | refine vR_nil ?_ | refine KtR_i (by kernel_rfl) ?_ | refine KrR_i (by kernel_rfl) ?_ | refine vR_skip (by decide) ?_
        | ((with_reducible refine vB_i ?_ ?_) <;> intro _ <;> (first | (exfalso; omega) | (exact absurd trivial ‹¬True›) | (try dsimp only [])))
        | ((with_reducible refine vOps_nil' ?_); refine Kr_i (by kernel_rfl) ?_; generalize hk : plain _ _ = G; simp only [lv, E3, E2, E5, rawX, deadX, SB, List.not_mem_nil, ↓reduceIte, ne_eq, reduceCtorEq, Nat.reduceLT, Nat.reduceEqDiff, Nat.reduceAdd, Nat.reduceMul, Nat.reduceLeDiff, Nat.reduceDiv, Nat.reduceMod, Nat.reduceSub, Nat.reduceBEq, List.length_map, List.length_take, List.length_drop, bs_len, rn_len, chs_len, chs_cnt, Int.sub_zero, Int.toNat_natCast, Int.reduceToNat, Int.natCast_zero, ← chs_snoc] at hk; subst hk)
        | with_reducible refine vSeq_i ?_
        | with_reducible first | refine vRegion_i (by kernel_rfl) ?_ | refine Kv_i ?_
        | ((with_reducible apply vStrK_i); (focus (rfl; done)))
        | ((with_reducible refine imp_i ?_); intro _)
        | with_reducible first | refine Ks_n ?_ | refine Ks_r ?_ | refine Ks_e ?_ | refine Kl_e ?_ | refine Kx_n ?_ | refine Kl_r ?_ | refine vRet_i ?_ | refine vSkip_i ?_ | refine vExit_i ?_ | refine vBlock_i ?_ | refine Ks_p ?_ | refine Kl_p ?_ | refine blk_p ?_ | exact Kb_p | refine vGoto_i ?_ | refine vLabel_i ?_ | refine Ks_g ?_ | refine Kl_g ?_ | refine blk_g ?_ | refine jmp_g ?_ | refine jmp_n ?_ | refine jmp_r ?_ | refine nog_n ?_ | refine nog_r ?_ | refine blk_n ?_ | refine blk_r ?_ | refine blk_e ?_ | refine blk_o (by decide) ?_ | refine cp_t ?_ | refine cp_f ?_
        | ((with_reducible apply vCond_x); (focus (simp only [lv, E1, E2, E5, ET, T, orc_mv, noO_mv, mvB, orc_bx, noO_bx, bxB, fwd, fwds, inv, mOk, Int.toNat_natCast, Nat.div_one, Nat.mul_one, Int.reduceToNat, SB, List.not_mem_nil, ↓reduceIte, ne_eq, reduceCtorEq, Nat.reduceLT, Nat.reduceEqDiff, Nat.reduceAdd, Nat.reduceMul, Nat.reduceLeDiff, Nat.reduceDiv, Nat.reduceMod, Nat.reduceSub, Nat.reduceBEq, List.length_map, List.length_take, List.length_drop, bs_len, rn_len, chs_len, chs_cnt, Int.sub_zero, Int.toNat_natCast, Int.reduceToNat, Int.natCast_zero, ← chs_snoc]; with_reducible first | exact Eq.refl (bo true) | exact Eq.refl (bo false))))
        | ((with_reducible refine And.intro ?_ ?_); (focus (try omega)))
      all_goals first | (exfalso; omega) | skip
      rw [cut_bsr]
      first | refine Kb_r ?_ | refine Kb_n ?_
      simp only [Try.f84, E4, E3, E2, E5, rawX, deadX, ET, T, SB, List.not_mem_nil, ↓reduceIte, ne_eq, reduceCtorEq, Nat.reduceLT, Nat.reduceEqDiff, Nat.reduceAdd, Nat.reduceMul, Nat.reduceLeDiff, Nat.reduceDiv, Nat.reduceMod, Nat.reduceSub, Nat.reduceBEq, List.length_map, List.length_take, List.length_drop, bs_len, rn_len, chs_len, chs_cnt, Int.sub_zero, Int.toNat_natCast, Int.reduceToNat, Int.natCast_zero, ← chs_snoc]
      generalize hW : List.contains (wrs _) 0 = b
      obtain rfl : b = false := hW.symm.trans (by kernel_rfl)
      simp only [E4, E3, E2, E5, rawX, deadX, ET, T, SB, List.not_mem_nil, ↓reduceIte, ne_eq, reduceCtorEq, Nat.reduceLT, Nat.reduceEqDiff, Nat.reduceAdd, Nat.reduceMul, Nat.reduceLeDiff, Nat.reduceDiv, Nat.reduceMod, Nat.reduceSub, Nat.reduceBEq, List.length_map, List.length_take, List.length_drop, bs_len, rn_len, chs_len, chs_cnt, Int.sub_zero, Int.toNat_natCast, Int.reduceToNat, Int.natCast_zero, ← chs_snoc]
      have e : ((a + n.toNat : Nat) : Int) = (a : Int) + n := by omega
      simp only [rbC, e]
    · rw [tk_short rfl h1]
      refine fn_okB' T_ok (orc_ok _) mixed Try.func84 rfl (by kernel_rfl) (lv [[0, 1], [0, 1, 24], [0, 1], [0, 1, 32], [0, 4], [0, 1, 5], [0, 5], [0, 4]]) 58 rfl (by simp) (by simp [Out.ok, X.all, PX.all, TV.isV, TV.lent]) ?_
      simp only [lentL, argsG, Nat.zero_add, Nat.reduceAdd, List.cons_append, List.nil_append]
      repeat' first
        | ((first
            | ((with_reducible refine vR_cons (by decide) ?_); generalize hk : KtR _ _ _ _ _ _ _ _ _ _ = k)
            | ((first
            | with_reducible refine vOps_cons' ?_) <;> generalize hk : Kt _ _ _ _ _ _ _ _ _ = k)) <;> (simp only [Try.f84, lv, E1, E2, E5, ET, T, orc_mv, noO_mv, mvB, orc_bx, noO_bx, bxB, fwd, fwds, inv, mOk, Int.toNat_natCast, Nat.div_one, Nat.mul_one, Int.reduceToNat, SB, List.not_mem_nil, ↓reduceIte, ne_eq, reduceCtorEq, Nat.reduceLT, Nat.reduceEqDiff, Nat.reduceAdd, Nat.reduceMul, Nat.reduceLeDiff, Nat.reduceDiv, Nat.reduceMod, Nat.reduceSub, Nat.reduceBEq, List.length_map, List.length_take, List.length_drop, bs_len, rn_len, chs_len, chs_cnt, Int.sub_zero, Int.toNat_natCast, Int.reduceToNat, Int.natCast_zero, ← chs_snoc]; (try simp (disch := omega) only [wrap_in, Int.toNat_natCast, tv_rn, tv_bs, tv_bst]); subst hk))
        | with_reducible first | refine Kt_p ?_ | refine Kt_i (by kernel_rfl) ?_ | refine Kr_f (by kernel_rfl) ?_
        | (with_reducible refine Kr_t ?_; simp only [List.length_append, List.length_cons, List.length_nil, Nat.reduceAdd, Nat.reduceSub, List.drop_succ_cons, List.drop_zero])
        | with_reducible first | refine vR_nil ?_ | refine KtR_i (by kernel_rfl) ?_ | refine KrR_i (by kernel_rfl) ?_ | refine vR_skip (by decide) ?_
        | ((with_reducible refine vB_i ?_ ?_) <;> intro _ <;> (first | (exfalso; omega) | (exact absurd trivial ‹¬True›) | (try dsimp only [])))
        | ((with_reducible refine vOps_nil' ?_); refine Kr_i (by kernel_rfl) ?_; generalize hk : plain _ _ = G; simp only [lv, E3, E2, E5, rawX, deadX, SB, List.not_mem_nil, ↓reduceIte, ne_eq, reduceCtorEq, Nat.reduceLT, Nat.reduceEqDiff, Nat.reduceAdd, Nat.reduceMul, Nat.reduceLeDiff, Nat.reduceDiv, Nat.reduceMod, Nat.reduceSub, Nat.reduceBEq, List.length_map, List.length_take, List.length_drop, bs_len, rn_len, chs_len, chs_cnt, Int.sub_zero, Int.toNat_natCast, Int.reduceToNat, Int.natCast_zero, ← chs_snoc] at hk; subst hk)
        | with_reducible refine vSeq_i ?_
        | with_reducible first | refine vRegion_i (by kernel_rfl) ?_ | refine Kv_i ?_
        | ((with_reducible apply vStrK_i); (focus (rfl; done)))
        | ((with_reducible refine imp_i ?_); intro _)
        | with_reducible first | refine Ks_n ?_ | refine Ks_r ?_ | refine Ks_e ?_ | refine Kl_e ?_ | refine Kx_n ?_ | refine Kl_r ?_ | refine vRet_i ?_ | refine vSkip_i ?_ | refine vExit_i ?_ | refine vBlock_i ?_ | refine Ks_p ?_ | refine Kl_p ?_ | refine blk_p ?_ | exact Kb_p | refine vGoto_i ?_ | refine vLabel_i ?_ | refine Ks_g ?_ | refine Kl_g ?_ | refine blk_g ?_ | refine jmp_g ?_ | refine jmp_n ?_ | refine jmp_r ?_ | refine nog_n ?_ | refine nog_r ?_ | refine blk_n ?_ | refine blk_r ?_ | refine blk_e ?_ | refine blk_o (by decide) ?_ | refine cp_t ?_ | refine cp_f ?_
        | ((with_reducible apply vCond_x); (focus (simp only [lv, E1, E2, E5, ET, T, orc_mv, noO_mv, mvB, orc_bx, noO_bx, bxB, fwd, fwds, inv, mOk, Int.toNat_natCast, Nat.div_one, Nat.mul_one, Int.reduceToNat, SB, List.not_mem_nil, ↓reduceIte, ne_eq, reduceCtorEq, Nat.reduceLT, Nat.reduceEqDiff, Nat.reduceAdd, Nat.reduceMul, Nat.reduceLeDiff, Nat.reduceDiv, Nat.reduceMod, Nat.reduceSub, Nat.reduceBEq, List.length_map, List.length_take, List.length_drop, bs_len, rn_len, chs_len, chs_cnt, Int.sub_zero, Int.toNat_natCast, Int.reduceToNat, Int.natCast_zero, ← chs_snoc]; with_reducible first | exact Eq.refl (bo true) | exact Eq.refl (bo false))))
        | ((with_reducible refine And.intro ?_ ?_); (focus (try omega)))
      all_goals first | (exfalso; omega) | skip
      first | refine Kb_r ?_ | refine Kb_n ?_
      simp only [Try.f84, E4, E3, E2, E5, rawX, deadX, ET, T, SB, List.not_mem_nil, ↓reduceIte, ne_eq, reduceCtorEq, Nat.reduceLT, Nat.reduceEqDiff, Nat.reduceAdd, Nat.reduceMul, Nat.reduceLeDiff, Nat.reduceDiv, Nat.reduceMod, Nat.reduceSub, Nat.reduceBEq, List.length_map, List.length_take, List.length_drop, bs_len, rn_len, chs_len, chs_cnt, Int.sub_zero, Int.toNat_natCast, Int.reduceToNat, Int.natCast_zero, ← chs_snoc]
      generalize hW : List.contains (wrs _) 0 = b
      obtain rfl : b = false := hW.symm.trans (by kernel_rfl)
      simp only [E4, E3, E2, E5, rawX, deadX, ET, T, SB, List.not_mem_nil, ↓reduceIte, ne_eq, reduceCtorEq, Nat.reduceLT, Nat.reduceEqDiff, Nat.reduceAdd, Nat.reduceMul, Nat.reduceLeDiff, Nat.reduceDiv, Nat.reduceMod, Nat.reduceSub, Nat.reduceBEq, List.length_map, List.length_take, List.length_drop, bs_len, rn_len, chs_len, chs_cnt, Int.sub_zero, Int.toNat_natCast, Int.reduceToNat, Int.natCast_zero, ← chs_snoc]
      try rfl
  · rw [tk_err h]
    refine fn_okB' T_ok (orc_ok _) mixed Try.func84 rfl (by kernel_rfl) (lv [[0, 1], [0, 1, 24], [0, 1], [0, 1, 32], [0, 4], [0, 1, 5], [0, 5], [0, 4]]) 58 rfl (by simp) (by simp [Out.ok, X.all, PX.all, TV.isV, TV.lent]) ?_
    simp only [lentL, argsG, Nat.zero_add, Nat.reduceAdd, List.cons_append, List.nil_append]
    repeat' first
      | ((first
          | ((with_reducible refine vR_cons (by decide) ?_); generalize hk : KtR _ _ _ _ _ _ _ _ _ _ = k)
          | ((first
          | with_reducible refine vOps_cons' ?_) <;> generalize hk : Kt _ _ _ _ _ _ _ _ _ = k)) <;> (simp only [Try.f84, lv, E1, E2, E5, ET, T, orc_mv, noO_mv, mvB, orc_bx, noO_bx, bxB, fwd, fwds, inv, mOk, Int.toNat_natCast, Nat.div_one, Nat.mul_one, Int.reduceToNat, SB, List.not_mem_nil, ↓reduceIte, ne_eq, reduceCtorEq, Nat.reduceLT, Nat.reduceEqDiff, Nat.reduceAdd, Nat.reduceMul, Nat.reduceLeDiff, Nat.reduceDiv, Nat.reduceMod, Nat.reduceSub, Nat.reduceBEq, List.length_map, List.length_take, List.length_drop, bs_len, rn_len, chs_len, chs_cnt, Int.sub_zero, Int.toNat_natCast, Int.reduceToNat, Int.natCast_zero, ← chs_snoc]; (try simp (disch := omega) only [wrap_in, Int.toNat_natCast, tv_rn, tv_bs, tv_bst]); subst hk))
      | with_reducible first | refine Kt_p ?_ | refine Kt_i (by kernel_rfl) ?_ | refine Kr_f (by kernel_rfl) ?_
      | (with_reducible refine Kr_t ?_; simp only [List.length_append, List.length_cons, List.length_nil, Nat.reduceAdd, Nat.reduceSub, List.drop_succ_cons, List.drop_zero])
      | with_reducible first | refine vR_nil ?_ | refine KtR_i (by kernel_rfl) ?_ | refine KrR_i (by kernel_rfl) ?_ | refine vR_skip (by decide) ?_
      | ((with_reducible refine vB_i ?_ ?_) <;> intro _ <;> (first | (exfalso; omega) | (exact absurd trivial ‹¬True›) | (try dsimp only [])))
      | ((with_reducible refine vOps_nil' ?_); refine Kr_i (by kernel_rfl) ?_; generalize hk : plain _ _ = G; simp only [lv, E3, E2, E5, rawX, deadX, SB, List.not_mem_nil, ↓reduceIte, ne_eq, reduceCtorEq, Nat.reduceLT, Nat.reduceEqDiff, Nat.reduceAdd, Nat.reduceMul, Nat.reduceLeDiff, Nat.reduceDiv, Nat.reduceMod, Nat.reduceSub, Nat.reduceBEq, List.length_map, List.length_take, List.length_drop, bs_len, rn_len, chs_len, chs_cnt, Int.sub_zero, Int.toNat_natCast, Int.reduceToNat, Int.natCast_zero, ← chs_snoc] at hk; subst hk)
      | with_reducible refine vSeq_i ?_
      | with_reducible first | refine vRegion_i (by kernel_rfl) ?_ | refine Kv_i ?_
      | ((with_reducible apply vStrK_i); (focus (rfl; done)))
      | ((with_reducible refine imp_i ?_); intro _)
      | with_reducible first | refine Ks_n ?_ | refine Ks_r ?_ | refine Ks_e ?_ | refine Kl_e ?_ | refine Kx_n ?_ | refine Kl_r ?_ | refine vRet_i ?_ | refine vSkip_i ?_ | refine vExit_i ?_ | refine vBlock_i ?_ | refine Ks_p ?_ | refine Kl_p ?_ | refine blk_p ?_ | exact Kb_p | refine vGoto_i ?_ | refine vLabel_i ?_ | refine Ks_g ?_ | refine Kl_g ?_ | refine blk_g ?_ | refine jmp_g ?_ | refine jmp_n ?_ | refine jmp_r ?_ | refine nog_n ?_ | refine nog_r ?_ | refine blk_n ?_ | refine blk_r ?_ | refine blk_e ?_ | refine blk_o (by decide) ?_ | refine cp_t ?_ | refine cp_f ?_
      | ((with_reducible apply vCond_x); (focus (simp only [lv, E1, E2, E5, ET, T, orc_mv, noO_mv, mvB, orc_bx, noO_bx, bxB, fwd, fwds, inv, mOk, Int.toNat_natCast, Nat.div_one, Nat.mul_one, Int.reduceToNat, SB, List.not_mem_nil, ↓reduceIte, ne_eq, reduceCtorEq, Nat.reduceLT, Nat.reduceEqDiff, Nat.reduceAdd, Nat.reduceMul, Nat.reduceLeDiff, Nat.reduceDiv, Nat.reduceMod, Nat.reduceSub, Nat.reduceBEq, List.length_map, List.length_take, List.length_drop, bs_len, rn_len, chs_len, chs_cnt, Int.sub_zero, Int.toNat_natCast, Int.reduceToNat, Int.natCast_zero, ← chs_snoc]; with_reducible first | exact Eq.refl (bo true) | exact Eq.refl (bo false))))
      | ((with_reducible refine And.intro ?_ ?_); (focus (try omega)))
    all_goals first | (exfalso; omega) | skip
    first | refine Kb_r ?_ | refine Kb_n ?_
    simp only [Try.f84, E4, E3, E2, E5, rawX, deadX, ET, T, SB, List.not_mem_nil, ↓reduceIte, ne_eq, reduceCtorEq, Nat.reduceLT, Nat.reduceEqDiff, Nat.reduceAdd, Nat.reduceMul, Nat.reduceLeDiff, Nat.reduceDiv, Nat.reduceMod, Nat.reduceSub, Nat.reduceBEq, List.length_map, List.length_take, List.length_drop, bs_len, rn_len, chs_len, chs_cnt, Int.sub_zero, Int.toNat_natCast, Int.reduceToNat, Int.natCast_zero, ← chs_snoc]
    generalize hW : List.contains (wrs _) 0 = b
    obtain rfl : b = false := hW.symm.trans (by kernel_rfl)
    simp only [E4, E3, E2, E5, rawX, deadX, ET, T, SB, List.not_mem_nil, ↓reduceIte, ne_eq, reduceCtorEq, Nat.reduceLT, Nat.reduceEqDiff, Nat.reduceAdd, Nat.reduceMul, Nat.reduceLeDiff, Nat.reduceDiv, Nat.reduceMod, Nat.reduceSub, Nat.reduceBEq, List.length_map, List.length_take, List.length_drop, bs_len, rn_len, chs_len, chs_cnt, Int.sub_zero, Int.toNat_natCast, Int.reduceToNat, Int.natCast_zero, ← chs_snoc]
    try rfl
set_option maxRecDepth 10000 in
set_option maxHeartbeats 4000000 in
theorem rnum64_ok (B : List Int) (s : RS) (hB : Bytes B) (hl : B.length ≤ 2000000) (hs : s.1 ≤ B.length) : CallB Try.prog 64 [(106, rbC B s)] [r0] (.ret (i64 (numS B s).1) [(106, rbC B (numS B s).2)]) := by
  have c := rtake_ok B s 4 (by omega) (by omega) hl hs
  obtain ⟨a, e⟩ := s
  simp only [] at hs
  by_cases h : e = 0
  · subst h
    by_cases h1 : 4 ≤ (B.length : Int) - a
    · rw [tk_ok rfl h1] at c
      have d := num53_ok ((B.drop a).take 4) ((hB.drop a).take 4) (by rw [List.length_take, List.length_drop]; omega)
      rw [numR_take] at d
      by_cases h2 : numR (B.drop a) > 2147483647
      · rw [nu_big rfl h1 h2]
        refine fn_okB' T_ok (orc_ok _) mixed Try.func64 rfl (by kernel_rfl) (lv [[0], [0, 3], [0, 3, 11], [0, 2], [0, 4], [0, 4, 15], [0, 4], [0, 2]]) 20 rfl (by simp) (by simp [Out.ok, X.all, PX.all, TV.isV, TV.lent]) ?_
        simp only [lentL, argsG, Nat.zero_add, Nat.reduceAdd, List.cons_append, List.nil_append]
        repeat' first
          | ((first
              | ((with_reducible refine vR_cons (by decide) ?_); generalize hk : KtR _ _ _ _ _ _ _ _ _ _ = k)
              | ((first
              | with_reducible refine vOps_cons' ?_
              | ((with_reducible apply orc_bc); (focus (exact c; done)))
              | ((with_reducible apply orc_i); (focus (exact d; done)))) <;> generalize hk : Kt _ _ _ _ _ _ _ _ _ = k)) <;> (simp only [Try.f64, lv, E1, E2, E5, ET, T, orc_mv, noO_mv, mvB, orc_bx, noO_bx, bxB, fwd, fwds, inv, mOk, Int.toNat_natCast, Nat.div_one, Nat.mul_one, Int.reduceToNat, SB, List.not_mem_nil, ↓reduceIte, ne_eq, reduceCtorEq, Nat.reduceLT, Nat.reduceEqDiff, Nat.reduceAdd, Nat.reduceMul, Nat.reduceLeDiff, Nat.reduceDiv, Nat.reduceMod, Nat.reduceSub, Nat.reduceBEq, List.length_map, List.length_take, List.length_drop, bs_len, rn_len, chs_len, chs_cnt, Int.sub_zero, Int.toNat_natCast, Int.reduceToNat, Int.natCast_zero, ← chs_snoc]; (try simp (disch := omega) only [wrap_in, Int.toNat_natCast, tv_rn, tv_bs, tv_bst]); subst hk))
          | with_reducible first | refine Kt_p ?_ | refine Kt_i (by kernel_rfl) ?_ | refine Kr_f (by kernel_rfl) ?_
          | (with_reducible refine Kr_t ?_; simp only [List.length_append, List.length_cons, List.length_nil, Nat.reduceAdd, Nat.reduceSub, List.drop_succ_cons, List.drop_zero])
          | with_reducible first | refine vR_nil ?_ | refine KtR_i (by kernel_rfl) ?_ | refine KrR_i (by kernel_rfl) ?_ | refine vR_skip (by decide) ?_
          | ((with_reducible refine vB_i ?_ ?_) <;> intro _ <;> (first | (exfalso; omega) | (exact absurd trivial ‹¬True›) | (try dsimp only [])))
          | ((with_reducible refine vOps_nil' ?_); refine Kr_i (by kernel_rfl) ?_; generalize hk : plain _ _ = G; simp only [lv, E3, E2, E5, rawX, deadX, SB, List.not_mem_nil, ↓reduceIte, ne_eq, reduceCtorEq, Nat.reduceLT, Nat.reduceEqDiff, Nat.reduceAdd, Nat.reduceMul, Nat.reduceLeDiff, Nat.reduceDiv, Nat.reduceMod, Nat.reduceSub, Nat.reduceBEq, List.length_map, List.length_take, List.length_drop, bs_len, rn_len, chs_len, chs_cnt, Int.sub_zero, Int.toNat_natCast, Int.reduceToNat, Int.natCast_zero, ← chs_snoc] at hk; subst hk)
          | with_reducible refine vSeq_i ?_
          | with_reducible first | refine vRegion_i (by kernel_rfl) ?_ | refine Kv_i ?_
          | ((with_reducible apply vStrK_i); (focus (rfl; done)))
          | ((with_reducible refine imp_i ?_); intro _)
          | with_reducible first | refine Ks_n ?_ | refine Ks_r ?_ | refine Ks_e ?_ | refine Kl_e ?_ | refine Kx_n ?_ | refine Kl_r ?_ | refine vRet_i ?_ | refine vSkip_i ?_ | refine vExit_i ?_ | refine vBlock_i ?_ | refine Ks_p ?_ | refine Kl_p ?_ | refine blk_p ?_ | exact Kb_p | refine vGoto_i ?_ | refine vLabel_i ?_ | refine Ks_g ?_ | refine Kl_g ?_ | refine blk_g ?_ | refine jmp_g ?_ | refine jmp_n ?_ | refine jmp_r ?_ | refine nog_n ?_ | refine nog_r ?_ | refine blk_n ?_ | refine blk_r ?_ | refine blk_e ?_ | refine blk_o (by decide) ?_ | refine cp_t ?_ | refine cp_f ?_
          | ((with_reducible apply vCond_x); (focus (simp only [lv, E1, E2, E5, ET, T, orc_mv, noO_mv, mvB, orc_bx, noO_bx, bxB, fwd, fwds, inv, mOk, Int.toNat_natCast, Nat.div_one, Nat.mul_one, Int.reduceToNat, SB, List.not_mem_nil, ↓reduceIte, ne_eq, reduceCtorEq, Nat.reduceLT, Nat.reduceEqDiff, Nat.reduceAdd, Nat.reduceMul, Nat.reduceLeDiff, Nat.reduceDiv, Nat.reduceMod, Nat.reduceSub, Nat.reduceBEq, List.length_map, List.length_take, List.length_drop, bs_len, rn_len, chs_len, chs_cnt, Int.sub_zero, Int.toNat_natCast, Int.reduceToNat, Int.natCast_zero, ← chs_snoc]; with_reducible first | exact Eq.refl (bo true) | exact Eq.refl (bo false))))
          | ((with_reducible refine And.intro ?_ ?_); (focus (try omega)))
        all_goals first | (exfalso; omega) | skip
        first | refine Kb_r ?_ | refine Kb_n ?_
        simp only [Try.f64, E4, E3, E2, E5, rawX, deadX, ET, T, SB, List.not_mem_nil, ↓reduceIte, ne_eq, reduceCtorEq, Nat.reduceLT, Nat.reduceEqDiff, Nat.reduceAdd, Nat.reduceMul, Nat.reduceLeDiff, Nat.reduceDiv, Nat.reduceMod, Nat.reduceSub, Nat.reduceBEq, List.length_map, List.length_take, List.length_drop, bs_len, rn_len, chs_len, chs_cnt, Int.sub_zero, Int.toNat_natCast, Int.reduceToNat, Int.natCast_zero, ← chs_snoc]
        generalize hW : List.contains (wrs _) 0 = b
        obtain rfl : b = false := hW.symm.trans (by kernel_rfl)
        simp only [E4, E3, E2, E5, rawX, deadX, ET, T, SB, List.not_mem_nil, ↓reduceIte, ne_eq, reduceCtorEq, Nat.reduceLT, Nat.reduceEqDiff, Nat.reduceAdd, Nat.reduceMul, Nat.reduceLeDiff, Nat.reduceDiv, Nat.reduceMod, Nat.reduceSub, Nat.reduceBEq, List.length_map, List.length_take, List.length_drop, bs_len, rn_len, chs_len, chs_cnt, Int.sub_zero, Int.toNat_natCast, Int.reduceToNat, Int.natCast_zero, ← chs_snoc]
        try rfl
      · rw [nu_ok rfl h1 h2]
        refine fn_okB' T_ok (orc_ok _) mixed Try.func64 rfl (by kernel_rfl) (lv [[0], [0, 3], [0, 3, 11], [0, 2], [0, 4], [0, 4, 15], [0, 4], [0, 2]]) 20 rfl (by simp) (by simp [Out.ok, X.all, PX.all, TV.isV, TV.lent]) ?_
        simp only [lentL, argsG, Nat.zero_add, Nat.reduceAdd, List.cons_append, List.nil_append]
        repeat' first
          | ((first
              | ((with_reducible refine vR_cons (by decide) ?_); generalize hk : KtR _ _ _ _ _ _ _ _ _ _ = k)
              | ((first
              | with_reducible refine vOps_cons' ?_
              | ((with_reducible apply orc_bc); (focus (exact c; done)))
              | ((with_reducible apply orc_i); (focus (exact d; done)))) <;> generalize hk : Kt _ _ _ _ _ _ _ _ _ = k)) <;> (simp only [Try.f64, lv, E1, E2, E5, ET, T, orc_mv, noO_mv, mvB, orc_bx, noO_bx, bxB, fwd, fwds, inv, mOk, Int.toNat_natCast, Nat.div_one, Nat.mul_one, Int.reduceToNat, SB, List.not_mem_nil, ↓reduceIte, ne_eq, reduceCtorEq, Nat.reduceLT, Nat.reduceEqDiff, Nat.reduceAdd, Nat.reduceMul, Nat.reduceLeDiff, Nat.reduceDiv, Nat.reduceMod, Nat.reduceSub, Nat.reduceBEq, List.length_map, List.length_take, List.length_drop, bs_len, rn_len, chs_len, chs_cnt, Int.sub_zero, Int.toNat_natCast, Int.reduceToNat, Int.natCast_zero, ← chs_snoc]; (try simp (disch := omega) only [wrap_in, Int.toNat_natCast, tv_rn, tv_bs, tv_bst]); subst hk))
          | with_reducible first | refine Kt_p ?_ | refine Kt_i (by kernel_rfl) ?_ | refine Kr_f (by kernel_rfl) ?_
          | (with_reducible refine Kr_t ?_; simp only [List.length_append, List.length_cons, List.length_nil, Nat.reduceAdd, Nat.reduceSub, List.drop_succ_cons, List.drop_zero])
          | with_reducible first | refine vR_nil ?_ | refine KtR_i (by kernel_rfl) ?_ | refine KrR_i (by kernel_rfl) ?_ | refine vR_skip (by decide) ?_
          | ((with_reducible refine vB_i ?_ ?_) <;> intro _ <;> (first | (exfalso; omega) | (exact absurd trivial ‹¬True›) | (try dsimp only [])))
          | ((with_reducible refine vOps_nil' ?_); refine Kr_i (by kernel_rfl) ?_; generalize hk : plain _ _ = G; simp only [lv, E3, E2, E5, rawX, deadX, SB, List.not_mem_nil, ↓reduceIte, ne_eq, reduceCtorEq, Nat.reduceLT, Nat.reduceEqDiff, Nat.reduceAdd, Nat.reduceMul, Nat.reduceLeDiff, Nat.reduceDiv, Nat.reduceMod, Nat.reduceSub, Nat.reduceBEq, List.length_map, List.length_take, List.length_drop, bs_len, rn_len, chs_len, chs_cnt, Int.sub_zero, Int.toNat_natCast, Int.reduceToNat, Int.natCast_zero, ← chs_snoc] at hk; subst hk)
          | with_reducible refine vSeq_i ?_
          | with_reducible first | refine vRegion_i (by kernel_rfl) ?_ | refine Kv_i ?_
          | ((with_reducible apply vStrK_i); (focus (rfl; done)))
          | ((with_reducible refine imp_i ?_); intro _)
          | with_reducible first | refine Ks_n ?_ | refine Ks_r ?_ | refine Ks_e ?_ | refine Kl_e ?_ | refine Kx_n ?_ | refine Kl_r ?_ | refine vRet_i ?_ | refine vSkip_i ?_ | refine vExit_i ?_ | refine vBlock_i ?_ | refine Ks_p ?_ | refine Kl_p ?_ | refine blk_p ?_ | exact Kb_p | refine vGoto_i ?_ | refine vLabel_i ?_ | refine Ks_g ?_ | refine Kl_g ?_ | refine blk_g ?_ | refine jmp_g ?_ | refine jmp_n ?_ | refine jmp_r ?_ | refine nog_n ?_ | refine nog_r ?_ | refine blk_n ?_ | refine blk_r ?_ | refine blk_e ?_ | refine blk_o (by decide) ?_ | refine cp_t ?_ | refine cp_f ?_
          | ((with_reducible apply vCond_x); (focus (simp only [lv, E1, E2, E5, ET, T, orc_mv, noO_mv, mvB, orc_bx, noO_bx, bxB, fwd, fwds, inv, mOk, Int.toNat_natCast, Nat.div_one, Nat.mul_one, Int.reduceToNat, SB, List.not_mem_nil, ↓reduceIte, ne_eq, reduceCtorEq, Nat.reduceLT, Nat.reduceEqDiff, Nat.reduceAdd, Nat.reduceMul, Nat.reduceLeDiff, Nat.reduceDiv, Nat.reduceMod, Nat.reduceSub, Nat.reduceBEq, List.length_map, List.length_take, List.length_drop, bs_len, rn_len, chs_len, chs_cnt, Int.sub_zero, Int.toNat_natCast, Int.reduceToNat, Int.natCast_zero, ← chs_snoc]; with_reducible first | exact Eq.refl (bo true) | exact Eq.refl (bo false))))
          | ((with_reducible refine And.intro ?_ ?_); (focus (try omega)))
        all_goals first | (exfalso; omega) | skip
        first | refine Kb_r ?_ | refine Kb_n ?_
        simp only [Try.f64, E4, E3, E2, E5, rawX, deadX, ET, T, SB, List.not_mem_nil, ↓reduceIte, ne_eq, reduceCtorEq, Nat.reduceLT, Nat.reduceEqDiff, Nat.reduceAdd, Nat.reduceMul, Nat.reduceLeDiff, Nat.reduceDiv, Nat.reduceMod, Nat.reduceSub, Nat.reduceBEq, List.length_map, List.length_take, List.length_drop, bs_len, rn_len, chs_len, chs_cnt, Int.sub_zero, Int.toNat_natCast, Int.reduceToNat, Int.natCast_zero, ← chs_snoc]
        generalize hW : List.contains (wrs _) 0 = b
        obtain rfl : b = false := hW.symm.trans (by kernel_rfl)
        simp only [E4, E3, E2, E5, rawX, deadX, ET, T, SB, List.not_mem_nil, ↓reduceIte, ne_eq, reduceCtorEq, Nat.reduceLT, Nat.reduceEqDiff, Nat.reduceAdd, Nat.reduceMul, Nat.reduceLeDiff, Nat.reduceDiv, Nat.reduceMod, Nat.reduceSub, Nat.reduceBEq, List.length_map, List.length_take, List.length_drop, bs_len, rn_len, chs_len, chs_cnt, Int.sub_zero, Int.toNat_natCast, Int.reduceToNat, Int.natCast_zero, ← chs_snoc]
        try rfl
    · rw [tk_short rfl h1] at c
      rw [nu_short rfl h1]
      refine fn_okB' T_ok (orc_ok _) mixed Try.func64 rfl (by kernel_rfl) (lv [[0], [0, 3], [0, 3, 11], [0, 2], [0, 4], [0, 4, 15], [0, 4], [0, 2]]) 20 rfl (by simp) (by simp [Out.ok, X.all, PX.all, TV.isV, TV.lent]) ?_
      simp only [lentL, argsG, Nat.zero_add, Nat.reduceAdd, List.cons_append, List.nil_append]
      repeat' first
        | ((first
            | ((with_reducible refine vR_cons (by decide) ?_); generalize hk : KtR _ _ _ _ _ _ _ _ _ _ = k)
            | ((first
            | with_reducible refine vOps_cons' ?_
            | ((with_reducible apply orc_bc); (focus (exact c; done)))) <;> generalize hk : Kt _ _ _ _ _ _ _ _ _ = k)) <;> (simp only [Try.f64, lv, E1, E2, E5, ET, T, orc_mv, noO_mv, mvB, orc_bx, noO_bx, bxB, fwd, fwds, inv, mOk, Int.toNat_natCast, Nat.div_one, Nat.mul_one, Int.reduceToNat, SB, List.not_mem_nil, ↓reduceIte, ne_eq, reduceCtorEq, Nat.reduceLT, Nat.reduceEqDiff, Nat.reduceAdd, Nat.reduceMul, Nat.reduceLeDiff, Nat.reduceDiv, Nat.reduceMod, Nat.reduceSub, Nat.reduceBEq, List.length_map, List.length_take, List.length_drop, bs_len, rn_len, chs_len, chs_cnt, Int.sub_zero, Int.toNat_natCast, Int.reduceToNat, Int.natCast_zero, ← chs_snoc]; (try simp (disch := omega) only [wrap_in, Int.toNat_natCast, tv_rn, tv_bs, tv_bst]); subst hk))
        | with_reducible first | refine Kt_p ?_ | refine Kt_i (by kernel_rfl) ?_ | refine Kr_f (by kernel_rfl) ?_
        | (with_reducible refine Kr_t ?_; simp only [List.length_append, List.length_cons, List.length_nil, Nat.reduceAdd, Nat.reduceSub, List.drop_succ_cons, List.drop_zero])
        | with_reducible first | refine vR_nil ?_ | refine KtR_i (by kernel_rfl) ?_ | refine KrR_i (by kernel_rfl) ?_ | refine vR_skip (by decide) ?_
        | ((with_reducible refine vB_i ?_ ?_) <;> intro _ <;> (first | (exfalso; omega) | (exact absurd trivial ‹¬True›) | (try dsimp only [])))
        | ((with_reducible refine vOps_nil' ?_); refine Kr_i (by kernel_rfl) ?_; generalize hk : plain _ _ = G; simp only [lv, E3, E2, E5, rawX, deadX, SB, List.not_mem_nil, ↓reduceIte, ne_eq, reduceCtorEq, Nat.reduceLT, Nat.reduceEqDiff, Nat.reduceAdd, Nat.reduceMul, Nat.reduceLeDiff, Nat.reduceDiv, Nat.reduceMod, Nat.reduceSub, Nat.reduceBEq, List.length_map, List.length_take, List.length_drop, bs_len, rn_len, chs_len, chs_cnt, Int.sub_zero, Int.toNat_natCast, Int.reduceToNat, Int.natCast_zero, ← chs_snoc] at hk; subst hk)
        | with_reducible refine vSeq_i ?_
        | with_reducible first | refine vRegion_i (by kernel_rfl) ?_ | refine Kv_i ?_
        | ((with_reducible apply vStrK_i); (focus (rfl; done)))
        | ((with_reducible refine imp_i ?_); intro _)
        | with_reducible first | refine Ks_n ?_ | refine Ks_r ?_ | refine Ks_e ?_ | refine Kl_e ?_ | refine Kx_n ?_ | refine Kl_r ?_ | refine vRet_i ?_ | refine vSkip_i ?_ | refine vExit_i ?_ | refine vBlock_i ?_ | refine Ks_p ?_ | refine Kl_p ?_ | refine blk_p ?_ | exact Kb_p | refine vGoto_i ?_ | refine vLabel_i ?_ | refine Ks_g ?_ | refine Kl_g ?_ | refine blk_g ?_ | refine jmp_g ?_ | refine jmp_n ?_ | refine jmp_r ?_ | refine nog_n ?_ | refine nog_r ?_ | refine blk_n ?_ | refine blk_r ?_ | refine blk_e ?_ | refine blk_o (by decide) ?_ | refine cp_t ?_ | refine cp_f ?_
        | ((with_reducible apply vCond_x); (focus (simp only [lv, E1, E2, E5, ET, T, orc_mv, noO_mv, mvB, orc_bx, noO_bx, bxB, fwd, fwds, inv, mOk, Int.toNat_natCast, Nat.div_one, Nat.mul_one, Int.reduceToNat, SB, List.not_mem_nil, ↓reduceIte, ne_eq, reduceCtorEq, Nat.reduceLT, Nat.reduceEqDiff, Nat.reduceAdd, Nat.reduceMul, Nat.reduceLeDiff, Nat.reduceDiv, Nat.reduceMod, Nat.reduceSub, Nat.reduceBEq, List.length_map, List.length_take, List.length_drop, bs_len, rn_len, chs_len, chs_cnt, Int.sub_zero, Int.toNat_natCast, Int.reduceToNat, Int.natCast_zero, ← chs_snoc]; with_reducible first | exact Eq.refl (bo true) | exact Eq.refl (bo false))))
        | ((with_reducible refine And.intro ?_ ?_); (focus (try omega)))
      all_goals first | (exfalso; omega) | skip
      first | refine Kb_r ?_ | refine Kb_n ?_
      simp only [Try.f64, E4, E3, E2, E5, rawX, deadX, ET, T, SB, List.not_mem_nil, ↓reduceIte, ne_eq, reduceCtorEq, Nat.reduceLT, Nat.reduceEqDiff, Nat.reduceAdd, Nat.reduceMul, Nat.reduceLeDiff, Nat.reduceDiv, Nat.reduceMod, Nat.reduceSub, Nat.reduceBEq, List.length_map, List.length_take, List.length_drop, bs_len, rn_len, chs_len, chs_cnt, Int.sub_zero, Int.toNat_natCast, Int.reduceToNat, Int.natCast_zero, ← chs_snoc]
      generalize hW : List.contains (wrs _) 0 = b
      obtain rfl : b = false := hW.symm.trans (by kernel_rfl)
      simp only [E4, E3, E2, E5, rawX, deadX, ET, T, SB, List.not_mem_nil, ↓reduceIte, ne_eq, reduceCtorEq, Nat.reduceLT, Nat.reduceEqDiff, Nat.reduceAdd, Nat.reduceMul, Nat.reduceLeDiff, Nat.reduceDiv, Nat.reduceMod, Nat.reduceSub, Nat.reduceBEq, List.length_map, List.length_take, List.length_drop, bs_len, rn_len, chs_len, chs_cnt, Int.sub_zero, Int.toNat_natCast, Int.reduceToNat, Int.natCast_zero, ← chs_snoc]
      try rfl
  · rw [tk_err h] at c
    rw [nu_err h]
    refine fn_okB' T_ok (orc_ok _) mixed Try.func64 rfl (by kernel_rfl) (lv [[0], [0, 3], [0, 3, 11], [0, 2], [0, 4], [0, 4, 15], [0, 4], [0, 2]]) 20 rfl (by simp) (by simp [Out.ok, X.all, PX.all, TV.isV, TV.lent]) ?_
    simp only [lentL, argsG, Nat.zero_add, Nat.reduceAdd, List.cons_append, List.nil_append]
    repeat' first
      | ((first
          | ((with_reducible refine vR_cons (by decide) ?_); generalize hk : KtR _ _ _ _ _ _ _ _ _ _ = k)
          | ((first
          | with_reducible refine vOps_cons' ?_
          | ((with_reducible apply orc_bc); (focus (exact c; done)))) <;> generalize hk : Kt _ _ _ _ _ _ _ _ _ = k)) <;> (simp only [Try.f64, lv, E1, E2, E5, ET, T, orc_mv, noO_mv, mvB, orc_bx, noO_bx, bxB, fwd, fwds, inv, mOk, Int.toNat_natCast, Nat.div_one, Nat.mul_one, Int.reduceToNat, SB, List.not_mem_nil, ↓reduceIte, ne_eq, reduceCtorEq, Nat.reduceLT, Nat.reduceEqDiff, Nat.reduceAdd, Nat.reduceMul, Nat.reduceLeDiff, Nat.reduceDiv, Nat.reduceMod, Nat.reduceSub, Nat.reduceBEq, List.length_map, List.length_take, List.length_drop, bs_len, rn_len, chs_len, chs_cnt, Int.sub_zero, Int.toNat_natCast, Int.reduceToNat, Int.natCast_zero, ← chs_snoc]; (try simp (disch := omega) only [wrap_in, Int.toNat_natCast, tv_rn, tv_bs, tv_bst]); subst hk))
      | with_reducible first | refine Kt_p ?_ | refine Kt_i (by kernel_rfl) ?_ | refine Kr_f (by kernel_rfl) ?_
      | (with_reducible refine Kr_t ?_; simp only [List.length_append, List.length_cons, List.length_nil, Nat.reduceAdd, Nat.reduceSub, List.drop_succ_cons, List.drop_zero])
      | with_reducible first | refine vR_nil ?_ | refine KtR_i (by kernel_rfl) ?_ | refine KrR_i (by kernel_rfl) ?_ | refine vR_skip (by decide) ?_
      | ((with_reducible refine vB_i ?_ ?_) <;> intro _ <;> (first | (exfalso; omega) | (exact absurd trivial ‹¬True›) | (try dsimp only [])))
      | ((with_reducible refine vOps_nil' ?_); refine Kr_i (by kernel_rfl) ?_; generalize hk : plain _ _ = G; simp only [lv, E3, E2, E5, rawX, deadX, SB, List.not_mem_nil, ↓reduceIte, ne_eq, reduceCtorEq, Nat.reduceLT, Nat.reduceEqDiff, Nat.reduceAdd, Nat.reduceMul, Nat.reduceLeDiff, Nat.reduceDiv, Nat.reduceMod, Nat.reduceSub, Nat.reduceBEq, List.length_map, List.length_take, List.length_drop, bs_len, rn_len, chs_len, chs_cnt, Int.sub_zero, Int.toNat_natCast, Int.reduceToNat, Int.natCast_zero, ← chs_snoc] at hk; subst hk)
      | with_reducible refine vSeq_i ?_
      | with_reducible first | refine vRegion_i (by kernel_rfl) ?_ | refine Kv_i ?_
      | ((with_reducible apply vStrK_i); (focus (rfl; done)))
      | ((with_reducible refine imp_i ?_); intro _)
      | with_reducible first | refine Ks_n ?_ | refine Ks_r ?_ | refine Ks_e ?_ | refine Kl_e ?_ | refine Kx_n ?_ | refine Kl_r ?_ | refine vRet_i ?_ | refine vSkip_i ?_ | refine vExit_i ?_ | refine vBlock_i ?_ | refine Ks_p ?_ | refine Kl_p ?_ | refine blk_p ?_ | exact Kb_p | refine vGoto_i ?_ | refine vLabel_i ?_ | refine Ks_g ?_ | refine Kl_g ?_ | refine blk_g ?_ | refine jmp_g ?_ | refine jmp_n ?_ | refine jmp_r ?_ | refine nog_n ?_ | refine nog_r ?_ | refine blk_n ?_ | refine blk_r ?_ | refine blk_e ?_ | refine blk_o (by decide) ?_ | refine cp_t ?_ | refine cp_f ?_
      | ((with_reducible apply vCond_x); (focus (simp only [lv, E1, E2, E5, ET, T, orc_mv, noO_mv, mvB, orc_bx, noO_bx, bxB, fwd, fwds, inv, mOk, Int.toNat_natCast, Nat.div_one, Nat.mul_one, Int.reduceToNat, SB, List.not_mem_nil, ↓reduceIte, ne_eq, reduceCtorEq, Nat.reduceLT, Nat.reduceEqDiff, Nat.reduceAdd, Nat.reduceMul, Nat.reduceLeDiff, Nat.reduceDiv, Nat.reduceMod, Nat.reduceSub, Nat.reduceBEq, List.length_map, List.length_take, List.length_drop, bs_len, rn_len, chs_len, chs_cnt, Int.sub_zero, Int.toNat_natCast, Int.reduceToNat, Int.natCast_zero, ← chs_snoc]; with_reducible first | exact Eq.refl (bo true) | exact Eq.refl (bo false))))
      | ((with_reducible refine And.intro ?_ ?_); (focus (try omega)))
    all_goals first | (exfalso; omega) | skip
    first | refine Kb_r ?_ | refine Kb_n ?_
    simp only [Try.f64, E4, E3, E2, E5, rawX, deadX, ET, T, SB, List.not_mem_nil, ↓reduceIte, ne_eq, reduceCtorEq, Nat.reduceLT, Nat.reduceEqDiff, Nat.reduceAdd, Nat.reduceMul, Nat.reduceLeDiff, Nat.reduceDiv, Nat.reduceMod, Nat.reduceSub, Nat.reduceBEq, List.length_map, List.length_take, List.length_drop, bs_len, rn_len, chs_len, chs_cnt, Int.sub_zero, Int.toNat_natCast, Int.reduceToNat, Int.natCast_zero, ← chs_snoc]
    generalize hW : List.contains (wrs _) 0 = b
    obtain rfl : b = false := hW.symm.trans (by kernel_rfl)
    simp only [E4, E3, E2, E5, rawX, deadX, ET, T, SB, List.not_mem_nil, ↓reduceIte, ne_eq, reduceCtorEq, Nat.reduceLT, Nat.reduceEqDiff, Nat.reduceAdd, Nat.reduceMul, Nat.reduceLeDiff, Nat.reduceDiv, Nat.reduceMod, Nat.reduceSub, Nat.reduceBEq, List.length_map, List.length_take, List.length_drop, bs_len, rn_len, chs_len, chs_cnt, Int.sub_zero, Int.toNat_natCast, Int.reduceToNat, Int.natCast_zero, ← chs_snoc]
    try rfl
set_option maxRecDepth 10000 in
set_option maxHeartbeats 4000000 in
theorem rtext65_ok (B : List Int) (s : RS) (hB : Bytes B) (hl : B.length ≤ 2000000) (hs : s.1 ≤ B.length) : CallB Try.prog 65 [(106, rbC B s)] [r0] (.ret (sl (rn (textS B s).1)) [(106, rbC B (textS B s).2)]) := by
  have c := rnum64_ok B s hB hl hs
  obtain ⟨n0, n1, n2⟩ := nu_bd hB hs
  have d := rtake_ok B (numS B s).2 (numS B s).1 n0 (by omega) hl n2
  have hb := tk_byt (B := B) (s := (numS B s).2) (n := (numS B s).1) (k := 2000000) ⟨hB, hl⟩
  have f := decode1_ok (tkS B (numS B s).2 (numS B s).1).1 hb.bytes (by have := hb.len; omega)
  unfold textS txS
  generalize numS B s = p at *
  obtain ⟨n, s1⟩ := p
  simp only [] at *
  generalize tkS B s1 n = q at *
  obtain ⟨xs, a, e⟩ := q
  simp only [decX] at *
  by_cases h : e = 0
  · subst h
    rw [if_pos rfl]
    refine fn_okB' T_ok (orc_ok _) mixed Try.func65 rfl (by kernel_rfl) (lv [[0], [0, 3], [0, 4], [0, 5, 7], [0, 5, 7, 23], [0, 5], [0, 2]]) 29 rfl (by simp) (by simp [Out.ok, X.all, PX.all, TV.isV, TV.lent]) ?_
    simp only [lentL, argsG, Nat.zero_add, Nat.reduceAdd, List.cons_append, List.nil_append]
    repeat' first
      | ((first
          | ((with_reducible refine vR_cons (by decide) ?_); generalize hk : KtR _ _ _ _ _ _ _ _ _ _ = k)
          | ((first
          | with_reducible refine vOps_cons' ?_
          | ((with_reducible apply orc_bc); (focus (exact c; done)))
          | ((with_reducible apply orc_bc); (focus (exact d; done)))
          | ((with_reducible apply orc_i); (focus (exact f; done)))) <;> generalize hk : Kt _ _ _ _ _ _ _ _ _ = k)) <;> (simp only [Try.f65, lv, E1, E2, E5, ET, T, orc_mv, noO_mv, mvB, orc_bx, noO_bx, bxB, fwd, fwds, inv, mOk, Int.toNat_natCast, Nat.div_one, Nat.mul_one, Int.reduceToNat, SB, List.not_mem_nil, ↓reduceIte, ne_eq, reduceCtorEq, Nat.reduceLT, Nat.reduceEqDiff, Nat.reduceAdd, Nat.reduceMul, Nat.reduceLeDiff, Nat.reduceDiv, Nat.reduceMod, Nat.reduceSub, Nat.reduceBEq, List.length_map, List.length_take, List.length_drop, bs_len, rn_len, chs_len, chs_cnt, Int.sub_zero, Int.toNat_natCast, Int.reduceToNat, Int.natCast_zero, ← chs_snoc]; (try simp (disch := omega) only [wrap_in, Int.toNat_natCast, tv_rn, tv_bs, tv_bst]); subst hk))
      | with_reducible first | refine Kt_p ?_ | refine Kt_i (by kernel_rfl) ?_ | refine Kr_f (by kernel_rfl) ?_
      | (with_reducible refine Kr_t ?_; simp only [List.length_append, List.length_cons, List.length_nil, Nat.reduceAdd, Nat.reduceSub, List.drop_succ_cons, List.drop_zero])
      | with_reducible first | refine vR_nil ?_ | refine KtR_i (by kernel_rfl) ?_ | refine KrR_i (by kernel_rfl) ?_ | refine vR_skip (by decide) ?_
      | ((with_reducible refine vB_i ?_ ?_) <;> intro _ <;> (first | (exfalso; omega) | (exact absurd trivial ‹¬True›) | (try dsimp only [])))
      | ((with_reducible refine vOps_nil' ?_); refine Kr_i (by kernel_rfl) ?_; generalize hk : plain _ _ = G; simp only [lv, E3, E2, E5, rawX, deadX, SB, List.not_mem_nil, ↓reduceIte, ne_eq, reduceCtorEq, Nat.reduceLT, Nat.reduceEqDiff, Nat.reduceAdd, Nat.reduceMul, Nat.reduceLeDiff, Nat.reduceDiv, Nat.reduceMod, Nat.reduceSub, Nat.reduceBEq, List.length_map, List.length_take, List.length_drop, bs_len, rn_len, chs_len, chs_cnt, Int.sub_zero, Int.toNat_natCast, Int.reduceToNat, Int.natCast_zero, ← chs_snoc] at hk; subst hk)
      | with_reducible refine vSeq_i ?_
      | with_reducible first | refine vRegion_i (by kernel_rfl) ?_ | refine Kv_i ?_
      | ((with_reducible apply vStrK_i); (focus (rfl; done)))
      | ((with_reducible refine imp_i ?_); intro _)
      | with_reducible first | refine Ks_n ?_ | refine Ks_r ?_ | refine Ks_e ?_ | refine Kl_e ?_ | refine Kx_n ?_ | refine Kl_r ?_ | refine vRet_i ?_ | refine vSkip_i ?_ | refine vExit_i ?_ | refine vBlock_i ?_ | refine Ks_p ?_ | refine Kl_p ?_ | refine blk_p ?_ | exact Kb_p | refine vGoto_i ?_ | refine vLabel_i ?_ | refine Ks_g ?_ | refine Kl_g ?_ | refine blk_g ?_ | refine jmp_g ?_ | refine jmp_n ?_ | refine jmp_r ?_ | refine nog_n ?_ | refine nog_r ?_ | refine blk_n ?_ | refine blk_r ?_ | refine blk_e ?_ | refine blk_o (by decide) ?_ | refine cp_t ?_ | refine cp_f ?_
      | ((with_reducible apply vCond_x); (focus (simp only [lv, E1, E2, E5, ET, T, orc_mv, noO_mv, mvB, orc_bx, noO_bx, bxB, fwd, fwds, inv, mOk, Int.toNat_natCast, Nat.div_one, Nat.mul_one, Int.reduceToNat, SB, List.not_mem_nil, ↓reduceIte, ne_eq, reduceCtorEq, Nat.reduceLT, Nat.reduceEqDiff, Nat.reduceAdd, Nat.reduceMul, Nat.reduceLeDiff, Nat.reduceDiv, Nat.reduceMod, Nat.reduceSub, Nat.reduceBEq, List.length_map, List.length_take, List.length_drop, bs_len, rn_len, chs_len, chs_cnt, Int.sub_zero, Int.toNat_natCast, Int.reduceToNat, Int.natCast_zero, ← chs_snoc]; with_reducible first | exact Eq.refl (bo true) | exact Eq.refl (bo false))))
      | ((with_reducible refine And.intro ?_ ?_); (focus (try omega)))
    all_goals first | (exfalso; omega) | skip
    first | refine Kb_r ?_ | refine Kb_n ?_
    simp only [Try.f65, E4, E3, E2, E5, rawX, deadX, ET, T, SB, List.not_mem_nil, ↓reduceIte, ne_eq, reduceCtorEq, Nat.reduceLT, Nat.reduceEqDiff, Nat.reduceAdd, Nat.reduceMul, Nat.reduceLeDiff, Nat.reduceDiv, Nat.reduceMod, Nat.reduceSub, Nat.reduceBEq, List.length_map, List.length_take, List.length_drop, bs_len, rn_len, chs_len, chs_cnt, Int.sub_zero, Int.toNat_natCast, Int.reduceToNat, Int.natCast_zero, ← chs_snoc]
    generalize hW : List.contains (wrs _) 0 = b
    obtain rfl : b = false := hW.symm.trans (by kernel_rfl)
    simp only [E4, E3, E2, E5, rawX, deadX, ET, T, SB, List.not_mem_nil, ↓reduceIte, ne_eq, reduceCtorEq, Nat.reduceLT, Nat.reduceEqDiff, Nat.reduceAdd, Nat.reduceMul, Nat.reduceLeDiff, Nat.reduceDiv, Nat.reduceMod, Nat.reduceSub, Nat.reduceBEq, List.length_map, List.length_take, List.length_drop, bs_len, rn_len, chs_len, chs_cnt, Int.sub_zero, Int.toNat_natCast, Int.reduceToNat, Int.natCast_zero, ← chs_snoc]
    try rfl
  · rw [if_neg h]
    refine fn_okB' T_ok (orc_ok _) mixed Try.func65 rfl (by kernel_rfl) (lv [[0], [0, 3], [0, 4], [0, 5, 7], [0, 5, 7, 23], [0, 5], [0, 2]]) 29 rfl (by simp) (by simp [Out.ok, X.all, PX.all, TV.isV, TV.lent]) ?_
    simp only [lentL, argsG, Nat.zero_add, Nat.reduceAdd, List.cons_append, List.nil_append]
    repeat' first
      | ((first
          | ((with_reducible refine vR_cons (by decide) ?_); generalize hk : KtR _ _ _ _ _ _ _ _ _ _ = k)
          | ((first
          | with_reducible refine vOps_cons' ?_
          | ((with_reducible apply orc_bc); (focus (exact c; done)))
          | ((with_reducible apply orc_bc); (focus (exact d; done)))
          | ((with_reducible apply orc_i); (focus (exact f; done)))) <;> generalize hk : Kt _ _ _ _ _ _ _ _ _ = k)) <;> (simp only [Try.f65, lv, E1, E2, E5, ET, T, orc_mv, noO_mv, mvB, orc_bx, noO_bx, bxB, fwd, fwds, inv, mOk, Int.toNat_natCast, Nat.div_one, Nat.mul_one, Int.reduceToNat, SB, List.not_mem_nil, ↓reduceIte, ne_eq, reduceCtorEq, Nat.reduceLT, Nat.reduceEqDiff, Nat.reduceAdd, Nat.reduceMul, Nat.reduceLeDiff, Nat.reduceDiv, Nat.reduceMod, Nat.reduceSub, Nat.reduceBEq, List.length_map, List.length_take, List.length_drop, bs_len, rn_len, chs_len, chs_cnt, Int.sub_zero, Int.toNat_natCast, Int.reduceToNat, Int.natCast_zero, ← chs_snoc]; (try simp (disch := omega) only [wrap_in, Int.toNat_natCast, tv_rn, tv_bs, tv_bst]); subst hk))
      | with_reducible first | refine Kt_p ?_ | refine Kt_i (by kernel_rfl) ?_ | refine Kr_f (by kernel_rfl) ?_
      | (with_reducible refine Kr_t ?_; simp only [List.length_append, List.length_cons, List.length_nil, Nat.reduceAdd, Nat.reduceSub, List.drop_succ_cons, List.drop_zero])
      | with_reducible first | refine vR_nil ?_ | refine KtR_i (by kernel_rfl) ?_ | refine KrR_i (by kernel_rfl) ?_ | refine vR_skip (by decide) ?_
      | ((with_reducible refine vB_i ?_ ?_) <;> intro _ <;> (first | (exfalso; omega) | (exact absurd trivial ‹¬True›) | (try dsimp only [])))
      | ((with_reducible refine vOps_nil' ?_); refine Kr_i (by kernel_rfl) ?_; generalize hk : plain _ _ = G; simp only [lv, E3, E2, E5, rawX, deadX, SB, List.not_mem_nil, ↓reduceIte, ne_eq, reduceCtorEq, Nat.reduceLT, Nat.reduceEqDiff, Nat.reduceAdd, Nat.reduceMul, Nat.reduceLeDiff, Nat.reduceDiv, Nat.reduceMod, Nat.reduceSub, Nat.reduceBEq, List.length_map, List.length_take, List.length_drop, bs_len, rn_len, chs_len, chs_cnt, Int.sub_zero, Int.toNat_natCast, Int.reduceToNat, Int.natCast_zero, ← chs_snoc] at hk; subst hk)
      | with_reducible refine vSeq_i ?_
      | with_reducible first | refine vRegion_i (by kernel_rfl) ?_ | refine Kv_i ?_
      | ((with_reducible apply vStrK_i); (focus (rfl; done)))
      | ((with_reducible refine imp_i ?_); intro _)
      | with_reducible first | refine Ks_n ?_ | refine Ks_r ?_ | refine Ks_e ?_ | refine Kl_e ?_ | refine Kx_n ?_ | refine Kl_r ?_ | refine vRet_i ?_ | refine vSkip_i ?_ | refine vExit_i ?_ | refine vBlock_i ?_ | refine Ks_p ?_ | refine Kl_p ?_ | refine blk_p ?_ | exact Kb_p | refine vGoto_i ?_ | refine vLabel_i ?_ | refine Ks_g ?_ | refine Kl_g ?_ | refine blk_g ?_ | refine jmp_g ?_ | refine jmp_n ?_ | refine jmp_r ?_ | refine nog_n ?_ | refine nog_r ?_ | refine blk_n ?_ | refine blk_r ?_ | refine blk_e ?_ | refine blk_o (by decide) ?_ | refine cp_t ?_ | refine cp_f ?_
      | ((with_reducible apply vCond_x); (focus (simp only [lv, E1, E2, E5, ET, T, orc_mv, noO_mv, mvB, orc_bx, noO_bx, bxB, fwd, fwds, inv, mOk, Int.toNat_natCast, Nat.div_one, Nat.mul_one, Int.reduceToNat, SB, List.not_mem_nil, ↓reduceIte, ne_eq, reduceCtorEq, Nat.reduceLT, Nat.reduceEqDiff, Nat.reduceAdd, Nat.reduceMul, Nat.reduceLeDiff, Nat.reduceDiv, Nat.reduceMod, Nat.reduceSub, Nat.reduceBEq, List.length_map, List.length_take, List.length_drop, bs_len, rn_len, chs_len, chs_cnt, Int.sub_zero, Int.toNat_natCast, Int.reduceToNat, Int.natCast_zero, ← chs_snoc]; with_reducible first | exact Eq.refl (bo true) | exact Eq.refl (bo false))))
      | ((with_reducible refine And.intro ?_ ?_); (focus (try omega)))
    all_goals first | (exfalso; omega) | skip
    first | refine Kb_r ?_ | refine Kb_n ?_
    simp only [Try.f65, E4, E3, E2, E5, rawX, deadX, ET, T, SB, List.not_mem_nil, ↓reduceIte, ne_eq, reduceCtorEq, Nat.reduceLT, Nat.reduceEqDiff, Nat.reduceAdd, Nat.reduceMul, Nat.reduceLeDiff, Nat.reduceDiv, Nat.reduceMod, Nat.reduceSub, Nat.reduceBEq, List.length_map, List.length_take, List.length_drop, bs_len, rn_len, chs_len, chs_cnt, Int.sub_zero, Int.toNat_natCast, Int.reduceToNat, Int.natCast_zero, ← chs_snoc]
    generalize hW : List.contains (wrs _) 0 = b
    obtain rfl : b = false := hW.symm.trans (by kernel_rfl)
    simp only [E4, E3, E2, E5, rawX, deadX, ET, T, SB, List.not_mem_nil, ↓reduceIte, ne_eq, reduceCtorEq, Nat.reduceLT, Nat.reduceEqDiff, Nat.reduceAdd, Nat.reduceMul, Nat.reduceLeDiff, Nat.reduceDiv, Nat.reduceMod, Nat.reduceSub, Nat.reduceBEq, List.length_map, List.length_take, List.length_drop, bs_len, rn_len, chs_len, chs_cnt, Int.sub_zero, Int.toNat_natCast, Int.reduceToNat, Int.natCast_zero, ← chs_snoc]
    try rfl
structure LsI (B : List Int) (n : Nat) (s0 : RS) (z : Nat × List Ch × RS) : Prop where
  le : z.1 ≤ n
  at_ : z.2.2.1 ≤ B.length
  cnt : z.2.1.length = z.1
  eq : lsN B n s0 = (z.2.1 ++ (lsN B (n - z.1) z.2.2).1, (lsN B (n - z.1) z.2.2).2)
theorem LsI.next {B n s0 z} (h : LsI B n s0 z) (hB : Bytes B) (hlt : z.1 < n) (he : z.2.2.2 = 0) : LsI B n s0 (z.1 + 1, z.2.1 ++ [⟨(numS B z.2.2).1, (textS B (numS B z.2.2).2).1, (textS B (textS B (numS B z.2.2).2).2).1⟩], (textS B (textS B (numS B z.2.2).2).2).2) :=
  ⟨hlt, text_at hB (text_at hB (nu_bd hB h.at_).2.2), by simp [h.cnt], by
    rw [h.eq, show n - z.1 = (n - (z.1 + 1)) + 1 by omega, lsN, if_pos he]
    simp⟩
theorem LsI.done {B n s0 z} (h : LsI B n s0 z) (hd : ¬ z.1 < n ∨ ¬ z.2.2.2 = 0) : lsN B n s0 = (z.2.1, z.2.2) := by
  rw [h.eq]
  by_cases hl : z.1 < n
  · have he : ¬ z.2.2.2 = 0 := hd.resolve_left (fun q => q hl)
    rw [show n - z.1 = (n - (z.1 + 1)) + 1 by omega, lsN, if_neg he]
    simp
  · rw [show n - z.1 = 0 by omega, lsN]
    simp
set_option maxRecDepth 20000 in
set_option maxHeartbeats 16000000 in
theorem rlist66_ok (B : List Int) (s : RS) (hB : Bytes B) (hl : B.length ≤ 2000000) (hs : s.1 ≤ B.length) : CallB Try.prog 66 [(106, rbC B s)] [r0] (.ret (sln 3 (chs (listS B s).1)) [(106, rbC B (listS B s).2)]) := by
  have c := rtake_ok B s 1 (by omega) (by omega) hl hs
  have hb := tk_byt (B := B) (s := s) (n := 1) (k := 2000000) ⟨hB, hl⟩
  have ha := tk_at (n := 1) hs
  have hp : (tkS B s 1).2.2 = 0 → 1 ≤ (tkS B s 1).1.length := fun q => by
    by_cases h0 : s.2 = 0
    · by_cases h1 : 1 ≤ (B.length : Int) - s.1
      · rw [tk_ok h0 h1]; simp only [List.length_take, List.length_drop]; omega
      · rw [tk_short h0 h1] at q; exact absurd (show (20 : Int) = 0 from q) (by decide)
    · rw [tk_err h0] at q; exact absurd q h0
  unfold listS
  generalize tkS B s 1 = q at *
  obtain ⟨xs, s1⟩ := q
  obtain ⟨a, e⟩ := s1
  simp only [] at *
  by_cases h : e = 0
  · subst h
    rw [if_pos rfl]
    have hx := hp rfl
    have b0 := rd_bd hb.bytes 0
    have hx0 : xs.getD 0 0 = rd xs 0 := rfl
    have en : ((rd xs 0).toNat : Int) = rd xs 0 := by omega
    have hI0 : LsI B (rd xs 0).toNat (a, 0) (0, [], (a, 0)) := ⟨Nat.zero_le _, ha, rfl, by simp⟩
    refine fn_okB' T_ok (orc_ok _) mixed Try.func66 rfl (by kernel_rfl) (lv [[0], [0, 3], [0, 3, 15], [0, 2], [0, 3, 4], [0, 3, 4, 5], [0, 3, 4, 5, 28], [0, 3, 4, 5], [0, 3, 4, 5, 6], [0, 3, 4, 5, 6, 7], [0, 3, 4, 5, 6, 7, 8], [0, 3, 4, 5], [0, 2]]) 45 rfl (by simp) (by simp [Out.ok, X.all, PX.all, TV.isV, TV.lent]) ?_
    simp only [lentL, argsG, Nat.zero_add, Nat.reduceAdd, List.cons_append, List.nil_append]
    repeat' first
      | ((first
          | ((with_reducible refine vR_cons (by decide) ?_); generalize hk : KtR _ _ _ _ _ _ _ _ _ _ = k)
          | ((first
          | with_reducible refine vOps_cons' ?_
          | ((with_reducible apply orc_bc); (focus (exact c; done)))) <;> generalize hk : Kt _ _ _ _ _ _ _ _ _ = k)) <;> (simp only [Try.f66, lv, E1, E2, E5, ET, T, orc_mv, noO_mv, mvB, orc_bx, noO_bx, bxB, fwd, fwds, inv, mOk, Int.toNat_natCast, Nat.div_one, Nat.mul_one, Int.reduceToNat, SB, List.not_mem_nil, ↓reduceIte, ne_eq, reduceCtorEq, Nat.reduceLT, Nat.reduceEqDiff, Nat.reduceAdd, Nat.reduceMul, Nat.reduceLeDiff, Nat.reduceDiv, Nat.reduceMod, Nat.reduceSub, Nat.reduceBEq, List.length_map, List.length_take, List.length_drop, bs_len, rn_len, chs_len, chs_cnt, Int.sub_zero, Int.toNat_natCast, Int.reduceToNat, Int.natCast_zero, ← chs_snoc]; (try simp (disch := omega) only [wrap_in, Int.toNat_natCast, tv_rn, tv_bs, tv_bst]); subst hk))
      | with_reducible first | refine Kt_p ?_ | refine Kt_i (by kernel_rfl) ?_ | refine Kr_f (by kernel_rfl) ?_
      | (with_reducible refine Kr_t ?_; simp only [List.length_append, List.length_cons, List.length_nil, Nat.reduceAdd, Nat.reduceSub, List.drop_succ_cons, List.drop_zero])
      | with_reducible first | refine vR_nil ?_ | refine KtR_i (by kernel_rfl) ?_ | refine KrR_i (by kernel_rfl) ?_ | refine vR_skip (by decide) ?_
      | ((with_reducible refine vB_i ?_ ?_) <;> intro _ <;> (first | (exfalso; omega) | (exact absurd trivial ‹¬True›) | (try dsimp only [])))
      | ((with_reducible refine vOps_nil' ?_); refine Kr_i (by kernel_rfl) ?_; generalize hk : plain _ _ = G; simp only [lv, E3, E2, E5, rawX, deadX, SB, List.not_mem_nil, ↓reduceIte, ne_eq, reduceCtorEq, Nat.reduceLT, Nat.reduceEqDiff, Nat.reduceAdd, Nat.reduceMul, Nat.reduceLeDiff, Nat.reduceDiv, Nat.reduceMod, Nat.reduceSub, Nat.reduceBEq, List.length_map, List.length_take, List.length_drop, bs_len, rn_len, chs_len, chs_cnt, Int.sub_zero, Int.toNat_natCast, Int.reduceToNat, Int.natCast_zero, ← chs_snoc] at hk; subst hk)
      | with_reducible refine vSeq_i ?_
      | with_reducible first | refine vRegion_i (by kernel_rfl) ?_ | refine Kv_i ?_
      | ((with_reducible apply vStrK_i); (focus (rfl; done)))
      | ((with_reducible refine imp_i ?_); intro _)
      | with_reducible first | refine Ks_n ?_ | refine Ks_r ?_ | refine Ks_e ?_ | refine Kl_e ?_ | refine Kx_n ?_ | refine Kl_r ?_ | refine vRet_i ?_ | refine vSkip_i ?_ | refine vExit_i ?_ | refine vBlock_i ?_ | refine Ks_p ?_ | refine Kl_p ?_ | refine blk_p ?_ | exact Kb_p | refine vGoto_i ?_ | refine vLabel_i ?_ | refine Ks_g ?_ | refine Kl_g ?_ | refine blk_g ?_ | refine jmp_g ?_ | refine jmp_n ?_ | refine jmp_r ?_ | refine nog_n ?_ | refine nog_r ?_ | refine blk_n ?_ | refine blk_r ?_ | refine blk_e ?_ | refine blk_o (by decide) ?_ | refine cp_t ?_ | refine cp_f ?_
      | ((with_reducible apply vCond_x); (focus (simp only [lv, E1, E2, E5, ET, T, orc_mv, noO_mv, mvB, orc_bx, noO_bx, bxB, fwd, fwds, inv, mOk, Int.toNat_natCast, Nat.div_one, Nat.mul_one, Int.reduceToNat, SB, List.not_mem_nil, ↓reduceIte, ne_eq, reduceCtorEq, Nat.reduceLT, Nat.reduceEqDiff, Nat.reduceAdd, Nat.reduceMul, Nat.reduceLeDiff, Nat.reduceDiv, Nat.reduceMod, Nat.reduceSub, Nat.reduceBEq, List.length_map, List.length_take, List.length_drop, bs_len, rn_len, chs_len, chs_cnt, Int.sub_zero, Int.toNat_natCast, Int.reduceToNat, Int.natCast_zero, ← chs_snoc]; with_reducible first | exact Eq.refl (bo true) | exact Eq.refl (bo false))))
      | ((with_reducible refine And.intro ?_ ?_); (focus (try omega)))
    all_goals first | (exfalso; omega) | skip
    refine vLoop_s (fun z : Nat × List Ch × RS => [(.t 0, .t r0), (.t 3, .t (sl (bs xs))), (.t 4, .t (.p (.one (.sr 1)))), (.t 5, .t (i64 z.1)), (.box 0, .box 106 (rbC B z.2.2)), (.row 1, .row 67 3 (chs z.2.1))]) (LsI B (rd xs 0).toNat (a, 0)) (fun z => (rd xs 0).toNat - z.1) (0, [], (a, 0)) hI0 rfl ?_
    rintro ⟨k, acc, s2⟩ hI
    have h1 : k ≤ (rd xs 0).toNat := hI.le
    have h2 : s2.1 ≤ B.length := hI.at_
    have h3 : acc.length = k := hI.cnt
    have d1 := rnum64_ok B s2 hB hl h2
    have h4 := (nu_bd hB h2).2.2
    have d2 := rtext65_ok B (numS B s2).2 hB hl h4
    have h5 := text_at (s := (numS B s2).2) hB h4
    have d3 := rtext65_ok B (textS B (numS B s2).2).2 hB hl h5
    simp only [] at *
    repeat' first
      | ((first
          | ((with_reducible refine vR_cons (by decide) ?_); generalize hk : KtR _ _ _ _ _ _ _ _ _ _ = k)
          | ((first
          | with_reducible refine vOps_cons' ?_
          | ((with_reducible apply orc_bc); (focus (exact d1; done)))
          | ((with_reducible apply orc_bc); (focus (exact d2; done)))
          | ((with_reducible apply orc_bc); (focus (exact d3; done)))) <;> generalize hk : Kt _ _ _ _ _ _ _ _ _ = k)) <;> (simp only [Try.f66, lv, E1, E2, E5, ET, T, orc_mv, noO_mv, mvB, orc_bx, noO_bx, bxB, fwd, fwds, inv, mOk, Int.toNat_natCast, Nat.div_one, Nat.mul_one, Int.reduceToNat, SB, List.not_mem_nil, ↓reduceIte, ne_eq, reduceCtorEq, Nat.reduceLT, Nat.reduceEqDiff, Nat.reduceAdd, Nat.reduceMul, Nat.reduceLeDiff, Nat.reduceDiv, Nat.reduceMod, Nat.reduceSub, Nat.reduceBEq, List.length_map, List.length_take, List.length_drop, bs_len, rn_len, chs_len, chs_cnt, Int.sub_zero, Int.toNat_natCast, Int.reduceToNat, Int.natCast_zero, ← chs_snoc]; (try simp (disch := omega) only [wrap_in, Int.toNat_natCast, tv_rn, tv_bs, tv_bst]); subst hk))
      | with_reducible first | refine Kt_p ?_ | refine Kt_i (by kernel_rfl) ?_ | refine Kr_f (by kernel_rfl) ?_
      | (with_reducible refine Kr_t ?_; simp only [List.length_append, List.length_cons, List.length_nil, Nat.reduceAdd, Nat.reduceSub, List.drop_succ_cons, List.drop_zero])
      | with_reducible first | refine vR_nil ?_ | refine KtR_i (by kernel_rfl) ?_ | refine KrR_i (by kernel_rfl) ?_ | refine vR_skip (by decide) ?_
      | ((with_reducible refine vB_i ?_ ?_) <;> intro _ <;> (first | (exfalso; omega) | (exact absurd trivial ‹¬True›) | (try dsimp only [])))
      | ((with_reducible refine vOps_nil' ?_); refine Kr_i (by kernel_rfl) ?_; generalize hk : plain _ _ = G; simp only [lv, E3, E2, E5, rawX, deadX, SB, List.not_mem_nil, ↓reduceIte, ne_eq, reduceCtorEq, Nat.reduceLT, Nat.reduceEqDiff, Nat.reduceAdd, Nat.reduceMul, Nat.reduceLeDiff, Nat.reduceDiv, Nat.reduceMod, Nat.reduceSub, Nat.reduceBEq, List.length_map, List.length_take, List.length_drop, bs_len, rn_len, chs_len, chs_cnt, Int.sub_zero, Int.toNat_natCast, Int.reduceToNat, Int.natCast_zero, ← chs_snoc] at hk; subst hk)
      | with_reducible refine vSeq_i ?_
      | with_reducible first | refine vRegion_i (by kernel_rfl) ?_ | refine Kv_i ?_
      | ((with_reducible apply vStrK_i); (focus (rfl; done)))
      | ((with_reducible refine imp_i ?_); intro _)
      | with_reducible first | refine Ks_n ?_ | refine Ks_r ?_ | refine Ks_e ?_ | refine Kl_e ?_ | refine Kx_n ?_ | refine Kl_r ?_ | refine vRet_i ?_ | refine vSkip_i ?_ | refine vExit_i ?_ | refine vBlock_i ?_ | refine Ks_p ?_ | refine Kl_p ?_ | refine blk_p ?_ | exact Kb_p | refine vGoto_i ?_ | refine vLabel_i ?_ | refine Ks_g ?_ | refine Kl_g ?_ | refine blk_g ?_ | refine jmp_g ?_ | refine jmp_n ?_ | refine jmp_r ?_ | refine nog_n ?_ | refine nog_r ?_ | refine blk_n ?_ | refine blk_r ?_ | refine blk_e ?_ | refine blk_o (by decide) ?_ | refine cp_t ?_ | refine cp_f ?_
      | ((with_reducible apply vCond_x); (focus (simp only [lv, E1, E2, E5, ET, T, orc_mv, noO_mv, mvB, orc_bx, noO_bx, bxB, fwd, fwds, inv, mOk, Int.toNat_natCast, Nat.div_one, Nat.mul_one, Int.reduceToNat, SB, List.not_mem_nil, ↓reduceIte, ne_eq, reduceCtorEq, Nat.reduceLT, Nat.reduceEqDiff, Nat.reduceAdd, Nat.reduceMul, Nat.reduceLeDiff, Nat.reduceDiv, Nat.reduceMod, Nat.reduceSub, Nat.reduceBEq, List.length_map, List.length_take, List.length_drop, bs_len, rn_len, chs_len, chs_cnt, Int.sub_zero, Int.toNat_natCast, Int.reduceToNat, Int.natCast_zero, ← chs_snoc]; with_reducible first | exact Eq.refl (bo true) | exact Eq.refl (bo false))))
      | ((with_reducible refine And.intro ?_ ?_); (focus (try omega)))
    all_goals try (exfalso; omega)
    all_goals try (simp only [cnt, List.length_cons, List.length_nil]; omega)
    all_goals try
      (refine Kl_n ⟨_, hI.next hB (by simp only []; omega) (by simp only []; omega), by simp only []; omega, ?_⟩
       simp only [chs_snoc, Int.natCast_add, Int.natCast_one]
       done)
    all_goals
      rw [show lsN B (rd xs 0).toNat (a, 0) = (acc, s2) from hI.done (by simp only []; omega)]
      first | refine Kb_r ?_ | refine Kb_n ?_
      simp only [Try.f66, E4, E3, E2, E5, rawX, deadX, ET, T, SB, List.not_mem_nil, ↓reduceIte, ne_eq, reduceCtorEq, Nat.reduceLT, Nat.reduceEqDiff, Nat.reduceAdd, Nat.reduceMul, Nat.reduceLeDiff, Nat.reduceDiv, Nat.reduceMod, Nat.reduceSub, Nat.reduceBEq, List.length_map, List.length_take, List.length_drop, bs_len, rn_len, chs_len, chs_cnt, Int.sub_zero, Int.toNat_natCast, Int.reduceToNat, Int.natCast_zero, ← chs_snoc]
      generalize hW : List.contains (wrs _) 0 = b
      obtain rfl : b = false := hW.symm.trans (by kernel_rfl)
      simp only [E4, E3, E2, E5, rawX, deadX, ET, T, SB, List.not_mem_nil, ↓reduceIte, ne_eq, reduceCtorEq, Nat.reduceLT, Nat.reduceEqDiff, Nat.reduceAdd, Nat.reduceMul, Nat.reduceLeDiff, Nat.reduceDiv, Nat.reduceMod, Nat.reduceSub, Nat.reduceBEq, List.length_map, List.length_take, List.length_drop, bs_len, rn_len, chs_len, chs_cnt, Int.sub_zero, Int.toNat_natCast, Int.reduceToNat, Int.natCast_zero, ← chs_snoc]
  · rw [if_neg h]
    refine fn_okB' T_ok (orc_ok _) mixed Try.func66 rfl (by kernel_rfl) (lv [[0], [0, 3], [0, 3, 15], [0, 2], [0, 3, 4], [0, 3, 4, 5], [0, 3, 4, 5, 28], [0, 3, 4, 5], [0, 3, 4, 5, 6], [0, 3, 4, 5, 6, 7], [0, 3, 4, 5, 6, 7, 8], [0, 3, 4, 5], [0, 2]]) 45 rfl (by simp) (by simp [Out.ok, X.all, PX.all, TV.isV, TV.lent]) ?_
    simp only [lentL, argsG, Nat.zero_add, Nat.reduceAdd, List.cons_append, List.nil_append]
    repeat' first
      | ((first
          | ((with_reducible refine vR_cons (by decide) ?_); generalize hk : KtR _ _ _ _ _ _ _ _ _ _ = k)
          | ((first
          | with_reducible refine vOps_cons' ?_
          | ((with_reducible apply orc_bc); (focus (exact c; done)))) <;> generalize hk : Kt _ _ _ _ _ _ _ _ _ = k)) <;> (simp only [Try.f66, lv, E1, E2, E5, ET, T, orc_mv, noO_mv, mvB, orc_bx, noO_bx, bxB, fwd, fwds, inv, mOk, Int.toNat_natCast, Nat.div_one, Nat.mul_one, Int.reduceToNat, SB, List.not_mem_nil, ↓reduceIte, ne_eq, reduceCtorEq, Nat.reduceLT, Nat.reduceEqDiff, Nat.reduceAdd, Nat.reduceMul, Nat.reduceLeDiff, Nat.reduceDiv, Nat.reduceMod, Nat.reduceSub, Nat.reduceBEq, List.length_map, List.length_take, List.length_drop, bs_len, rn_len, chs_len, chs_cnt, Int.sub_zero, Int.toNat_natCast, Int.reduceToNat, Int.natCast_zero, ← chs_snoc]; (try simp (disch := omega) only [wrap_in, Int.toNat_natCast, tv_rn, tv_bs, tv_bst]); subst hk))
      | with_reducible first | refine Kt_p ?_ | refine Kt_i (by kernel_rfl) ?_ | refine Kr_f (by kernel_rfl) ?_
      | (with_reducible refine Kr_t ?_; simp only [List.length_append, List.length_cons, List.length_nil, Nat.reduceAdd, Nat.reduceSub, List.drop_succ_cons, List.drop_zero])
      | with_reducible first | refine vR_nil ?_ | refine KtR_i (by kernel_rfl) ?_ | refine KrR_i (by kernel_rfl) ?_ | refine vR_skip (by decide) ?_
      | ((with_reducible refine vB_i ?_ ?_) <;> intro _ <;> (first | (exfalso; omega) | (exact absurd trivial ‹¬True›) | (try dsimp only [])))
      | ((with_reducible refine vOps_nil' ?_); refine Kr_i (by kernel_rfl) ?_; generalize hk : plain _ _ = G; simp only [lv, E3, E2, E5, rawX, deadX, SB, List.not_mem_nil, ↓reduceIte, ne_eq, reduceCtorEq, Nat.reduceLT, Nat.reduceEqDiff, Nat.reduceAdd, Nat.reduceMul, Nat.reduceLeDiff, Nat.reduceDiv, Nat.reduceMod, Nat.reduceSub, Nat.reduceBEq, List.length_map, List.length_take, List.length_drop, bs_len, rn_len, chs_len, chs_cnt, Int.sub_zero, Int.toNat_natCast, Int.reduceToNat, Int.natCast_zero, ← chs_snoc] at hk; subst hk)
      | with_reducible refine vSeq_i ?_
      | with_reducible first | refine vRegion_i (by kernel_rfl) ?_ | refine Kv_i ?_
      | ((with_reducible apply vStrK_i); (focus (rfl; done)))
      | ((with_reducible refine imp_i ?_); intro _)
      | with_reducible first | refine Ks_n ?_ | refine Ks_r ?_ | refine Ks_e ?_ | refine Kl_e ?_ | refine Kx_n ?_ | refine Kl_r ?_ | refine vRet_i ?_ | refine vSkip_i ?_ | refine vExit_i ?_ | refine vBlock_i ?_ | refine Ks_p ?_ | refine Kl_p ?_ | refine blk_p ?_ | exact Kb_p | refine vGoto_i ?_ | refine vLabel_i ?_ | refine Ks_g ?_ | refine Kl_g ?_ | refine blk_g ?_ | refine jmp_g ?_ | refine jmp_n ?_ | refine jmp_r ?_ | refine nog_n ?_ | refine nog_r ?_ | refine blk_n ?_ | refine blk_r ?_ | refine blk_e ?_ | refine blk_o (by decide) ?_ | refine cp_t ?_ | refine cp_f ?_
      | ((with_reducible apply vCond_x); (focus (simp only [lv, E1, E2, E5, ET, T, orc_mv, noO_mv, mvB, orc_bx, noO_bx, bxB, fwd, fwds, inv, mOk, Int.toNat_natCast, Nat.div_one, Nat.mul_one, Int.reduceToNat, SB, List.not_mem_nil, ↓reduceIte, ne_eq, reduceCtorEq, Nat.reduceLT, Nat.reduceEqDiff, Nat.reduceAdd, Nat.reduceMul, Nat.reduceLeDiff, Nat.reduceDiv, Nat.reduceMod, Nat.reduceSub, Nat.reduceBEq, List.length_map, List.length_take, List.length_drop, bs_len, rn_len, chs_len, chs_cnt, Int.sub_zero, Int.toNat_natCast, Int.reduceToNat, Int.natCast_zero, ← chs_snoc]; with_reducible first | exact Eq.refl (bo true) | exact Eq.refl (bo false))))
      | ((with_reducible refine And.intro ?_ ?_); (focus (try omega)))
    all_goals first | (exfalso; omega) | skip
    first | refine Kb_r ?_ | refine Kb_n ?_
    simp only [Try.f66, E4, E3, E2, E5, rawX, deadX, ET, T, SB, List.not_mem_nil, ↓reduceIte, ne_eq, reduceCtorEq, Nat.reduceLT, Nat.reduceEqDiff, Nat.reduceAdd, Nat.reduceMul, Nat.reduceLeDiff, Nat.reduceDiv, Nat.reduceMod, Nat.reduceSub, Nat.reduceBEq, List.length_map, List.length_take, List.length_drop, bs_len, rn_len, chs_len, chs_cnt, Int.sub_zero, Int.toNat_natCast, Int.reduceToNat, Int.natCast_zero, ← chs_snoc]
    generalize hW : List.contains (wrs _) 0 = b
    obtain rfl : b = false := hW.symm.trans (by kernel_rfl)
    simp only [E4, E3, E2, E5, rawX, deadX, ET, T, SB, List.not_mem_nil, ↓reduceIte, ne_eq, reduceCtorEq, Nat.reduceLT, Nat.reduceEqDiff, Nat.reduceAdd, Nat.reduceMul, Nat.reduceLeDiff, Nat.reduceDiv, Nat.reduceMod, Nat.reduceSub, Nat.reduceBEq, List.length_map, List.length_take, List.length_drop, bs_len, rn_len, chs_len, chs_cnt, Int.sub_zero, Int.toNat_natCast, Int.reduceToNat, Int.natCast_zero, ← chs_snoc]
    try rfl
end Go.Proofs.YtdpflafjfkooeaaG
namespace Go.Proofs.YtdpflafjfkooeaaG
open Go Go.RowKit Go.Proofs Go.Proofs.YtdpflafjfkooeaaG.Dec
set_option linter.unusedSimpArgs false
set_option linter.unusedVariables false
set_option maxRecDepth 10000 in
set_option maxHeartbeats 16000000 in
theorem rr_walk (B : List Int) (n : Int) (s1 s2 s3 : RS) (t : List Int) (u v : List Ch) (at_ : Nat) (e w : Int) (hl : B.length ≤ 2000000) (hat0 : at_ ≤ B.length)
    (c1 : CallB Try.prog 64 [(106, [.v (.sl 1 (bs B)), .v (.raw (.int .i64 0)), .v (.raw (.int .i64 0))])] [r0] (.ret (i64 n) [(106, rbC B s1)]))
    (c2 : CallB Try.prog 65 [(106, rbC B s1)] [r0] (.ret (sl (rn t)) [(106, rbC B s2)]))
    (c3 : CallB Try.prog 66 [(106, rbC B s2)] [r0] (.ret (sln 3 (chs u)) [(106, rbC B s3)]))
    (c4 : CallB Try.prog 66 [(106, rbC B s3)] [r0] (.ret (sln 3 (chs v)) [(106, [.v (.sl 1 (bs B)), .v (.raw (.int .i64 (at_ : Int))), .v (.raw (.int .i64 e))])]))
    (hR : CallOk Try.prog 17 [.p (.agg [.v (.sl 1 (rn t)), .v (.sl 3 (chs u)), .v (.sl 3 (chs v))])] (i64 w) [] true) :
    CallOk Try.prog 30 [sl (bs B)] (stE (if (if e = 0 then (if at_ < B.length then 50 else w) else e) = 0 then (n, ⟨t, u, v⟩, 0) else (0, st00, if e = 0 then (if at_ < B.length then 50 else w) else e))) [] false := by
  by_cases he : e = 0
  · subst he
    by_cases hat : at_ < B.length
    · simp only [if_true, if_pos hat]
      rw [if_neg (by decide)]
      refine fn_ok' T_ok (orc_ok _) mixed Try.func30 rfl (by kernel_rfl) (lv [[0, 3, 1000003], [0, 3, 5], [0, 3, 5, 6], [0, 3, 5, 6, 7, 1000007], [0, 3, 5, 6, 7], [0, 3, 5, 6, 7], [0, 3, 5, 6, 7], [3, 5, 6, 7, 35], [3, 5, 6, 7], [3, 5, 6, 7, 43], [3, 5, 6, 7], [3, 5, 6, 7, 53], [2, 3, 4, 1000003], [2, 3, 4, 1000003]]) 61 rfl (by simp) rfl (by simp) ?_
      simp only [argsG, Nat.zero_add, Nat.reduceAdd]
      repeat' first
        | ((first
            | ((with_reducible refine vR_cons (by decide) ?_); generalize hk : KtR _ _ _ _ _ _ _ _ _ _ = k)
            | ((first
            | with_reducible refine vOps_cons' ?_
            | ((with_reducible apply orc_bc); (focus (exact c1; done)))
            | ((with_reducible apply orc_bc); (focus (exact c2; done)))
            | ((with_reducible apply orc_bc); (focus (exact c3; done)))
            | ((with_reducible apply orc_bc); (focus (exact c4; done)))) <;> generalize hk : Kt _ _ _ _ _ _ _ _ _ = k)) <;> (simp only [Try.f30, lv, E1, E2, E5, ET, T, orc_mv, noO_mv, mvB, orc_bx, noO_bx, bxB, fwd, fwds, inv, mOk, Int.toNat_natCast, Nat.div_one, Nat.mul_one, Int.reduceToNat, SB, List.not_mem_nil, ↓reduceIte, ne_eq, reduceCtorEq, Nat.reduceLT, Nat.reduceEqDiff, Nat.reduceAdd, Nat.reduceMul, Nat.reduceLeDiff, Nat.reduceDiv, Nat.reduceMod, Nat.reduceSub, Nat.reduceBEq, List.length_map, bs_len, rn_len, chs_len, chs_cnt, Opn.x, St.x]; (try simp (disch := omega) only [wrap_in, Int.toNat_natCast, tv_rn, tv_bst]); subst hk))
        | with_reducible first | refine Kt_p ?_ | refine Kt_i (by kernel_rfl) ?_ | refine Kr_f (by kernel_rfl) ?_
        | (with_reducible refine Kr_t ?_; simp only [List.length_append, List.length_cons, List.length_nil, Nat.reduceAdd, Nat.reduceSub, List.drop_succ_cons, List.drop_zero])
        | with_reducible first | refine vR_nil ?_ | refine KtR_i (by kernel_rfl) ?_ | refine KrR_i (by kernel_rfl) ?_ | refine vR_skip (by decide) ?_
        | ((with_reducible refine vB_i ?_ ?_) <;> intro _ <;> (first | (exfalso; omega) | (exact absurd trivial ‹¬True›) | (try dsimp only [])))
        | ((with_reducible refine vOps_nil' ?_); refine Kr_i (by kernel_rfl) ?_; generalize hk : plain _ _ = G; simp only [lv, E3, E2, E5, rawX, deadX, SB, List.not_mem_nil, ↓reduceIte, ne_eq, reduceCtorEq, Nat.reduceLT, Nat.reduceEqDiff, Nat.reduceAdd, Nat.reduceMul, Nat.reduceLeDiff, Nat.reduceDiv, Nat.reduceMod, Nat.reduceSub, Nat.reduceBEq, List.length_map, bs_len, rn_len, chs_len, chs_cnt, Opn.x, St.x] at hk; subst hk)
        | with_reducible refine vSeq_i ?_
        | with_reducible first | refine vRegion_i (by kernel_rfl) ?_ | refine Kv_i ?_
        | ((with_reducible apply vStrK_i); (focus (rfl; done)))
        | ((with_reducible refine imp_i ?_); intro _)
        | with_reducible first | refine Ks_n ?_ | refine Ks_r ?_ | refine Ks_e ?_ | refine Kl_e ?_ | refine Kx_n ?_ | refine Kl_r ?_ | refine vRet_i ?_ | refine vSkip_i ?_ | refine vExit_i ?_ | refine vBlock_i ?_ | refine Ks_p ?_ | refine Kl_p ?_ | refine blk_p ?_ | exact Kb_p | refine vGoto_i ?_ | refine vLabel_i ?_ | refine Ks_g ?_ | refine Kl_g ?_ | refine blk_g ?_ | refine jmp_g ?_ | refine jmp_n ?_ | refine jmp_r ?_ | refine nog_n ?_ | refine nog_r ?_ | refine blk_n ?_ | refine blk_r ?_ | refine blk_e ?_ | refine blk_o (by decide) ?_ | refine cp_t ?_ | refine cp_f ?_
        | ((with_reducible apply vCond_x); (focus (simp only [lv, E1, E2, E5, ET, T, orc_mv, noO_mv, mvB, orc_bx, noO_bx, bxB, fwd, fwds, inv, mOk, Int.toNat_natCast, Nat.div_one, Nat.mul_one, Int.reduceToNat, SB, List.not_mem_nil, ↓reduceIte, ne_eq, reduceCtorEq, Nat.reduceLT, Nat.reduceEqDiff, Nat.reduceAdd, Nat.reduceMul, Nat.reduceLeDiff, Nat.reduceDiv, Nat.reduceMod, Nat.reduceSub, Nat.reduceBEq, List.length_map, bs_len, rn_len, chs_len, chs_cnt, Opn.x, St.x]; with_reducible first | exact Eq.refl (bo true) | exact Eq.refl (bo false))))
        | ((with_reducible refine And.intro ?_ ?_); (focus (try omega)))
      all_goals first | (exfalso; omega) | skip
      refine Kf_r ?_
      simp only [Try.f30, E4, E3, E2, E5, rawX, deadX, ET, T, SB, List.not_mem_nil, ↓reduceIte, ne_eq, reduceCtorEq, Nat.reduceLT, Nat.reduceEqDiff, Nat.reduceAdd, Nat.reduceMul, Nat.reduceLeDiff, Nat.reduceDiv, Nat.reduceMod, Nat.reduceSub, Nat.reduceBEq, List.length_map, bs_len, rn_len, chs_len, chs_cnt, Opn.x, St.x, stE, St.cs, st00]
      try rfl
    · simp only [if_true, if_neg hat]
      by_cases hw : w = 0
      · rw [if_pos hw]
        subst hw
        refine fn_ok' T_ok (orc_ok _) mixed Try.func30 rfl (by kernel_rfl) (lv [[0, 3, 1000003], [0, 3, 5], [0, 3, 5, 6], [0, 3, 5, 6, 7, 1000007], [0, 3, 5, 6, 7], [0, 3, 5, 6, 7], [0, 3, 5, 6, 7], [3, 5, 6, 7, 35], [3, 5, 6, 7], [3, 5, 6, 7, 43], [3, 5, 6, 7], [3, 5, 6, 7, 53], [2, 3, 4, 1000003], [2, 3, 4, 1000003]]) 61 rfl (by simp) rfl (by simp) ?_
        simp only [argsG, Nat.zero_add, Nat.reduceAdd]
        repeat' first
          | ((first
              | ((with_reducible refine vR_cons (by decide) ?_); generalize hk : KtR _ _ _ _ _ _ _ _ _ _ = k)
              | ((first
              | with_reducible refine vOps_cons' ?_
              | ((with_reducible apply orc_bc); (focus (exact c1; done)))
              | ((with_reducible apply orc_bc); (focus (exact c2; done)))
              | ((with_reducible apply orc_bc); (focus (exact c3; done)))
              | ((with_reducible apply orc_bc); (focus (exact c4; done)))
              | ((with_reducible apply orc_i); (focus (exact hR; done)))) <;> generalize hk : Kt _ _ _ _ _ _ _ _ _ = k)) <;> (simp only [Try.f30, lv, E1, E2, E5, ET, T, orc_mv, noO_mv, mvB, orc_bx, noO_bx, bxB, fwd, fwds, inv, mOk, Int.toNat_natCast, Nat.div_one, Nat.mul_one, Int.reduceToNat, SB, List.not_mem_nil, ↓reduceIte, ne_eq, reduceCtorEq, Nat.reduceLT, Nat.reduceEqDiff, Nat.reduceAdd, Nat.reduceMul, Nat.reduceLeDiff, Nat.reduceDiv, Nat.reduceMod, Nat.reduceSub, Nat.reduceBEq, List.length_map, bs_len, rn_len, chs_len, chs_cnt, Opn.x, St.x]; (try simp (disch := omega) only [wrap_in, Int.toNat_natCast, tv_rn, tv_bst]); subst hk))
          | with_reducible first | refine Kt_p ?_ | refine Kt_i (by kernel_rfl) ?_ | refine Kr_f (by kernel_rfl) ?_
          | (with_reducible refine Kr_t ?_; simp only [List.length_append, List.length_cons, List.length_nil, Nat.reduceAdd, Nat.reduceSub, List.drop_succ_cons, List.drop_zero])
          | with_reducible first | refine vR_nil ?_ | refine KtR_i (by kernel_rfl) ?_ | refine KrR_i (by kernel_rfl) ?_ | refine vR_skip (by decide) ?_
          | ((with_reducible refine vB_i ?_ ?_) <;> intro _ <;> (first | (exfalso; omega) | (exact absurd trivial ‹¬True›) | (try dsimp only [])))
          | ((with_reducible refine vOps_nil' ?_); refine Kr_i (by kernel_rfl) ?_; generalize hk : plain _ _ = G; simp only [lv, E3, E2, E5, rawX, deadX, SB, List.not_mem_nil, ↓reduceIte, ne_eq, reduceCtorEq, Nat.reduceLT, Nat.reduceEqDiff, Nat.reduceAdd, Nat.reduceMul, Nat.reduceLeDiff, Nat.reduceDiv, Nat.reduceMod, Nat.reduceSub, Nat.reduceBEq, List.length_map, bs_len, rn_len, chs_len, chs_cnt, Opn.x, St.x] at hk; subst hk)
          | with_reducible refine vSeq_i ?_
          | with_reducible first | refine vRegion_i (by kernel_rfl) ?_ | refine Kv_i ?_
          | ((with_reducible apply vStrK_i); (focus (rfl; done)))
          | ((with_reducible refine imp_i ?_); intro _)
          | with_reducible first | refine Ks_n ?_ | refine Ks_r ?_ | refine Ks_e ?_ | refine Kl_e ?_ | refine Kx_n ?_ | refine Kl_r ?_ | refine vRet_i ?_ | refine vSkip_i ?_ | refine vExit_i ?_ | refine vBlock_i ?_ | refine Ks_p ?_ | refine Kl_p ?_ | refine blk_p ?_ | exact Kb_p | refine vGoto_i ?_ | refine vLabel_i ?_ | refine Ks_g ?_ | refine Kl_g ?_ | refine blk_g ?_ | refine jmp_g ?_ | refine jmp_n ?_ | refine jmp_r ?_ | refine nog_n ?_ | refine nog_r ?_ | refine blk_n ?_ | refine blk_r ?_ | refine blk_e ?_ | refine blk_o (by decide) ?_ | refine cp_t ?_ | refine cp_f ?_
          | ((with_reducible apply vCond_x); (focus (simp only [lv, E1, E2, E5, ET, T, orc_mv, noO_mv, mvB, orc_bx, noO_bx, bxB, fwd, fwds, inv, mOk, Int.toNat_natCast, Nat.div_one, Nat.mul_one, Int.reduceToNat, SB, List.not_mem_nil, ↓reduceIte, ne_eq, reduceCtorEq, Nat.reduceLT, Nat.reduceEqDiff, Nat.reduceAdd, Nat.reduceMul, Nat.reduceLeDiff, Nat.reduceDiv, Nat.reduceMod, Nat.reduceSub, Nat.reduceBEq, List.length_map, bs_len, rn_len, chs_len, chs_cnt, Opn.x, St.x]; with_reducible first | exact Eq.refl (bo true) | exact Eq.refl (bo false))))
          | ((with_reducible refine And.intro ?_ ?_); (focus (try omega)))
        all_goals first | (exfalso; omega) | skip
        refine Kf_r ?_
        simp only [Try.f30, E4, E3, E2, E5, rawX, deadX, ET, T, SB, List.not_mem_nil, ↓reduceIte, ne_eq, reduceCtorEq, Nat.reduceLT, Nat.reduceEqDiff, Nat.reduceAdd, Nat.reduceMul, Nat.reduceLeDiff, Nat.reduceDiv, Nat.reduceMod, Nat.reduceSub, Nat.reduceBEq, List.length_map, bs_len, rn_len, chs_len, chs_cnt, Opn.x, St.x, stE, St.cs, st00]
        try rfl
      · rw [if_neg hw]
        refine fn_ok' T_ok (orc_ok _) mixed Try.func30 rfl (by kernel_rfl) (lv [[0, 3, 1000003], [0, 3, 5], [0, 3, 5, 6], [0, 3, 5, 6, 7, 1000007], [0, 3, 5, 6, 7], [0, 3, 5, 6, 7], [0, 3, 5, 6, 7], [3, 5, 6, 7, 35], [3, 5, 6, 7], [3, 5, 6, 7, 43], [3, 5, 6, 7], [3, 5, 6, 7, 53], [2, 3, 4, 1000003], [2, 3, 4, 1000003]]) 61 rfl (by simp) rfl (by simp) ?_
        simp only [argsG, Nat.zero_add, Nat.reduceAdd]
        repeat' first
          | ((first
              | ((with_reducible refine vR_cons (by decide) ?_); generalize hk : KtR _ _ _ _ _ _ _ _ _ _ = k)
              | ((first
              | with_reducible refine vOps_cons' ?_
              | ((with_reducible apply orc_bc); (focus (exact c1; done)))
              | ((with_reducible apply orc_bc); (focus (exact c2; done)))
              | ((with_reducible apply orc_bc); (focus (exact c3; done)))
              | ((with_reducible apply orc_bc); (focus (exact c4; done)))
              | ((with_reducible apply orc_i); (focus (exact hR; done)))) <;> generalize hk : Kt _ _ _ _ _ _ _ _ _ = k)) <;> (simp only [Try.f30, lv, E1, E2, E5, ET, T, orc_mv, noO_mv, mvB, orc_bx, noO_bx, bxB, fwd, fwds, inv, mOk, Int.toNat_natCast, Nat.div_one, Nat.mul_one, Int.reduceToNat, SB, List.not_mem_nil, ↓reduceIte, ne_eq, reduceCtorEq, Nat.reduceLT, Nat.reduceEqDiff, Nat.reduceAdd, Nat.reduceMul, Nat.reduceLeDiff, Nat.reduceDiv, Nat.reduceMod, Nat.reduceSub, Nat.reduceBEq, List.length_map, bs_len, rn_len, chs_len, chs_cnt, Opn.x, St.x]; (try simp (disch := omega) only [wrap_in, Int.toNat_natCast, tv_rn, tv_bst]); subst hk))
          | with_reducible first | refine Kt_p ?_ | refine Kt_i (by kernel_rfl) ?_ | refine Kr_f (by kernel_rfl) ?_
          | (with_reducible refine Kr_t ?_; simp only [List.length_append, List.length_cons, List.length_nil, Nat.reduceAdd, Nat.reduceSub, List.drop_succ_cons, List.drop_zero])
          | with_reducible first | refine vR_nil ?_ | refine KtR_i (by kernel_rfl) ?_ | refine KrR_i (by kernel_rfl) ?_ | refine vR_skip (by decide) ?_
          | ((with_reducible refine vB_i ?_ ?_) <;> intro _ <;> (first | (exfalso; omega) | (exact absurd trivial ‹¬True›) | (try dsimp only [])))
          | ((with_reducible refine vOps_nil' ?_); refine Kr_i (by kernel_rfl) ?_; generalize hk : plain _ _ = G; simp only [lv, E3, E2, E5, rawX, deadX, SB, List.not_mem_nil, ↓reduceIte, ne_eq, reduceCtorEq, Nat.reduceLT, Nat.reduceEqDiff, Nat.reduceAdd, Nat.reduceMul, Nat.reduceLeDiff, Nat.reduceDiv, Nat.reduceMod, Nat.reduceSub, Nat.reduceBEq, List.length_map, bs_len, rn_len, chs_len, chs_cnt, Opn.x, St.x] at hk; subst hk)
          | with_reducible refine vSeq_i ?_
          | with_reducible first | refine vRegion_i (by kernel_rfl) ?_ | refine Kv_i ?_
          | ((with_reducible apply vStrK_i); (focus (rfl; done)))
          | ((with_reducible refine imp_i ?_); intro _)
          | with_reducible first | refine Ks_n ?_ | refine Ks_r ?_ | refine Ks_e ?_ | refine Kl_e ?_ | refine Kx_n ?_ | refine Kl_r ?_ | refine vRet_i ?_ | refine vSkip_i ?_ | refine vExit_i ?_ | refine vBlock_i ?_ | refine Ks_p ?_ | refine Kl_p ?_ | refine blk_p ?_ | exact Kb_p | refine vGoto_i ?_ | refine vLabel_i ?_ | refine Ks_g ?_ | refine Kl_g ?_ | refine blk_g ?_ | refine jmp_g ?_ | refine jmp_n ?_ | refine jmp_r ?_ | refine nog_n ?_ | refine nog_r ?_ | refine blk_n ?_ | refine blk_r ?_ | refine blk_e ?_ | refine blk_o (by decide) ?_ | refine cp_t ?_ | refine cp_f ?_
          | ((with_reducible apply vCond_x); (focus (simp only [lv, E1, E2, E5, ET, T, orc_mv, noO_mv, mvB, orc_bx, noO_bx, bxB, fwd, fwds, inv, mOk, Int.toNat_natCast, Nat.div_one, Nat.mul_one, Int.reduceToNat, SB, List.not_mem_nil, ↓reduceIte, ne_eq, reduceCtorEq, Nat.reduceLT, Nat.reduceEqDiff, Nat.reduceAdd, Nat.reduceMul, Nat.reduceLeDiff, Nat.reduceDiv, Nat.reduceMod, Nat.reduceSub, Nat.reduceBEq, List.length_map, bs_len, rn_len, chs_len, chs_cnt, Opn.x, St.x]; with_reducible first | exact Eq.refl (bo true) | exact Eq.refl (bo false))))
          | ((with_reducible refine And.intro ?_ ?_); (focus (try omega)))
        all_goals first | (exfalso; omega) | skip
        refine Kf_r ?_
        simp only [Try.f30, E4, E3, E2, E5, rawX, deadX, ET, T, SB, List.not_mem_nil, ↓reduceIte, ne_eq, reduceCtorEq, Nat.reduceLT, Nat.reduceEqDiff, Nat.reduceAdd, Nat.reduceMul, Nat.reduceLeDiff, Nat.reduceDiv, Nat.reduceMod, Nat.reduceSub, Nat.reduceBEq, List.length_map, bs_len, rn_len, chs_len, chs_cnt, Opn.x, St.x, stE, St.cs, st00]
        try rfl
  · simp only [if_neg he]
    refine fn_ok' T_ok (orc_ok _) mixed Try.func30 rfl (by kernel_rfl) (lv [[0, 3, 1000003], [0, 3, 5], [0, 3, 5, 6], [0, 3, 5, 6, 7, 1000007], [0, 3, 5, 6, 7], [0, 3, 5, 6, 7], [0, 3, 5, 6, 7], [3, 5, 6, 7, 35], [3, 5, 6, 7], [3, 5, 6, 7, 43], [3, 5, 6, 7], [3, 5, 6, 7, 53], [2, 3, 4, 1000003], [2, 3, 4, 1000003]]) 61 rfl (by simp) rfl (by simp) ?_
    simp only [argsG, Nat.zero_add, Nat.reduceAdd]
    repeat' first
      | ((first
          | ((with_reducible refine vR_cons (by decide) ?_); generalize hk : KtR _ _ _ _ _ _ _ _ _ _ = k)
          | ((first
          | with_reducible refine vOps_cons' ?_
          | ((with_reducible apply orc_bc); (focus (exact c1; done)))
          | ((with_reducible apply orc_bc); (focus (exact c2; done)))
          | ((with_reducible apply orc_bc); (focus (exact c3; done)))
          | ((with_reducible apply orc_bc); (focus (exact c4; done)))) <;> generalize hk : Kt _ _ _ _ _ _ _ _ _ = k)) <;> (simp only [Try.f30, lv, E1, E2, E5, ET, T, orc_mv, noO_mv, mvB, orc_bx, noO_bx, bxB, fwd, fwds, inv, mOk, Int.toNat_natCast, Nat.div_one, Nat.mul_one, Int.reduceToNat, SB, List.not_mem_nil, ↓reduceIte, ne_eq, reduceCtorEq, Nat.reduceLT, Nat.reduceEqDiff, Nat.reduceAdd, Nat.reduceMul, Nat.reduceLeDiff, Nat.reduceDiv, Nat.reduceMod, Nat.reduceSub, Nat.reduceBEq, List.length_map, bs_len, rn_len, chs_len, chs_cnt, Opn.x, St.x]; (try simp (disch := omega) only [wrap_in, Int.toNat_natCast, tv_rn, tv_bst]); subst hk))
      | with_reducible first | refine Kt_p ?_ | refine Kt_i (by kernel_rfl) ?_ | refine Kr_f (by kernel_rfl) ?_
      | (with_reducible refine Kr_t ?_; simp only [List.length_append, List.length_cons, List.length_nil, Nat.reduceAdd, Nat.reduceSub, List.drop_succ_cons, List.drop_zero])
      | with_reducible first | refine vR_nil ?_ | refine KtR_i (by kernel_rfl) ?_ | refine KrR_i (by kernel_rfl) ?_ | refine vR_skip (by decide) ?_
      | ((with_reducible refine vB_i ?_ ?_) <;> intro _ <;> (first | (exfalso; omega) | (exact absurd trivial ‹¬True›) | (try dsimp only [])))
      | ((with_reducible refine vOps_nil' ?_); refine Kr_i (by kernel_rfl) ?_; generalize hk : plain _ _ = G; simp only [lv, E3, E2, E5, rawX, deadX, SB, List.not_mem_nil, ↓reduceIte, ne_eq, reduceCtorEq, Nat.reduceLT, Nat.reduceEqDiff, Nat.reduceAdd, Nat.reduceMul, Nat.reduceLeDiff, Nat.reduceDiv, Nat.reduceMod, Nat.reduceSub, Nat.reduceBEq, List.length_map, bs_len, rn_len, chs_len, chs_cnt, Opn.x, St.x] at hk; subst hk)
      | with_reducible refine vSeq_i ?_
      | with_reducible first | refine vRegion_i (by kernel_rfl) ?_ | refine Kv_i ?_
      | ((with_reducible apply vStrK_i); (focus (rfl; done)))
      | ((with_reducible refine imp_i ?_); intro _)
      | with_reducible first | refine Ks_n ?_ | refine Ks_r ?_ | refine Ks_e ?_ | refine Kl_e ?_ | refine Kx_n ?_ | refine Kl_r ?_ | refine vRet_i ?_ | refine vSkip_i ?_ | refine vExit_i ?_ | refine vBlock_i ?_ | refine Ks_p ?_ | refine Kl_p ?_ | refine blk_p ?_ | exact Kb_p | refine vGoto_i ?_ | refine vLabel_i ?_ | refine Ks_g ?_ | refine Kl_g ?_ | refine blk_g ?_ | refine jmp_g ?_ | refine jmp_n ?_ | refine jmp_r ?_ | refine nog_n ?_ | refine nog_r ?_ | refine blk_n ?_ | refine blk_r ?_ | refine blk_e ?_ | refine blk_o (by decide) ?_ | refine cp_t ?_ | refine cp_f ?_
      | ((with_reducible apply vCond_x); (focus (simp only [lv, E1, E2, E5, ET, T, orc_mv, noO_mv, mvB, orc_bx, noO_bx, bxB, fwd, fwds, inv, mOk, Int.toNat_natCast, Nat.div_one, Nat.mul_one, Int.reduceToNat, SB, List.not_mem_nil, ↓reduceIte, ne_eq, reduceCtorEq, Nat.reduceLT, Nat.reduceEqDiff, Nat.reduceAdd, Nat.reduceMul, Nat.reduceLeDiff, Nat.reduceDiv, Nat.reduceMod, Nat.reduceSub, Nat.reduceBEq, List.length_map, bs_len, rn_len, chs_len, chs_cnt, Opn.x, St.x]; with_reducible first | exact Eq.refl (bo true) | exact Eq.refl (bo false))))
      | ((with_reducible refine And.intro ?_ ?_); (focus (try omega)))
    all_goals first | (exfalso; omega) | skip
    refine Kf_r ?_
    simp only [Try.f30, E4, E3, E2, E5, rawX, deadX, ET, T, SB, List.not_mem_nil, ↓reduceIte, ne_eq, reduceCtorEq, Nat.reduceLT, Nat.reduceEqDiff, Nat.reduceAdd, Nat.reduceMul, Nat.reduceLeDiff, Nat.reduceDiv, Nat.reduceMod, Nat.reduceSub, Nat.reduceBEq, List.length_map, bs_len, rn_len, chs_len, chs_cnt, Opn.x, St.x, stE, St.cs, st00]
    try rfl
theorem rreadState_ok (B : List Int) (g : BytN 100000 B) : CallOk Try.prog 30 [sl (bs B)] (stE (rrF B)) [] false := by
  have hB := g.bytes
  have hl : B.length ≤ 2000000 := by have := g.len; omega
  have h1 := (nu_bd (s := (0, 0)) hB (Nat.zero_le _)).2.2
  have h2 : (rrT B).2.1 ≤ B.length := text_at hB h1
  have h3 : (rrU B).2.1 ≤ B.length := list_at hB h2
  have h4 : (rrV B).2.1 ≤ B.length := list_at hB h3
  exact rr_walk B _ _ _ _ _ _ _ _ _ _ hl h4 (rnum64_ok B (0, 0) hB hl (Nat.zero_le _)) (rtext65_ok B _ hB hl h1) (rlist66_ok B (rrT B).2 hB hl h2) (rlist66_ok B (rrU B).2 hB hl h3) (refRight_ok (rrSt B) (rr_ok g))
end Go.Proofs.YtdpflafjfkooeaaG
namespace Go.Proofs.YtdpflafjfkooeaaG
open Go Go.RowKit Go.Proofs
set_option linter.unusedSimpArgs false
set_option linter.unusedVariables false
set_option maxRecDepth 10000 in
set_option maxHeartbeats 4000000 in
theorem rpiece_ok (l : List Int) (h : R32s l) (hl : l.length ≤ 2000000) : CallOk Try.prog 57 [sl (rn l)] (.p (.one (.sr 0))) [(5, 1, bs (pieceF l))] true := by
  have hv := encV_le l
  refine fn_ok' T_ok (orc_ok _) mixed Try.func57 rfl (by kernel_rfl) (lv [[0], [3], [2]]) 17 rfl (by simp) rfl (fun _ => ⟨rfl, rows_raw⟩) ?_
  simp only [argsG, Nat.zero_add, Nat.reduceAdd]
  repeat' first
    | ((first
        | ((with_reducible refine vR_cons (by decide) ?_); generalize hk : KtR _ _ _ _ _ _ _ _ _ _ = k)
        | ((first
        | with_reducible refine vOps_cons' ?_
        | ((with_reducible apply orc_i); (focus ((have hq := encode1_ok l h hl; simp only [encX, encR_v] at hq; exact hq); done)))
        | ((with_reducible apply orc_i); (focus (exact digits_ok _ (by omega) (by omega); done)))) <;> generalize hk : Kt _ _ _ _ _ _ _ _ _ = k)) <;> (simp only [Try.f57, lv, E1, E2, E5, ET, T, orc_mv, noO_mv, mvB, orc_bx, noO_bx, bxB, fwd, fwds, inv, mOk, Int.toNat_natCast, Nat.div_one, Nat.mul_one, Int.reduceToNat, SB, List.not_mem_nil, ↓reduceIte, ne_eq, reduceCtorEq, Nat.reduceLT, Nat.reduceEqDiff, Nat.reduceAdd, Nat.reduceMul, Nat.reduceLeDiff, Nat.reduceDiv, Nat.reduceMod, Nat.reduceSub, Nat.reduceBEq, List.length_map, bs_len, rn_len, chs_len, chs_cnt, List.length_append, List.length_cons, List.length_nil, Ch.x, Opn.x, St.x]; (try simp (disch := omega) only [wrap_in, Int.toNat_natCast, tv_rn, tv_ch0, tv_ch1, tv_ch2]); subst hk))
    | with_reducible first | refine Kt_p ?_ | refine Kt_i (by kernel_rfl) ?_ | refine Kr_f (by kernel_rfl) ?_
    | (with_reducible refine Kr_t ?_; simp only [List.length_append, List.length_cons, List.length_nil, Nat.reduceAdd, Nat.reduceSub, List.drop_succ_cons, List.drop_zero])
    | with_reducible first | refine vR_nil ?_ | refine KtR_i (by kernel_rfl) ?_ | refine KrR_i (by kernel_rfl) ?_ | refine vR_skip (by decide) ?_
    | ((with_reducible refine vB_i ?_ ?_) <;> intro _ <;> (first | (exfalso; omega) | (exact absurd trivial ‹¬True›) | (try dsimp only [])))
    | ((with_reducible refine vOps_nil' ?_); refine Kr_i (by kernel_rfl) ?_; generalize hk : plain _ _ = G; simp only [lv, E3, E2, E5, rawX, deadX, SB, List.not_mem_nil, ↓reduceIte, ne_eq, reduceCtorEq, Nat.reduceLT, Nat.reduceEqDiff, Nat.reduceAdd, Nat.reduceMul, Nat.reduceLeDiff, Nat.reduceDiv, Nat.reduceMod, Nat.reduceSub, Nat.reduceBEq, List.length_map, bs_len, rn_len, chs_len, chs_cnt, List.length_append, List.length_cons, List.length_nil, Ch.x, Opn.x, St.x] at hk; subst hk)
    | with_reducible refine vSeq_i ?_
    | with_reducible first | refine vRegion_i (by kernel_rfl) ?_ | refine Kv_i ?_
    | ((with_reducible apply vStrK_i); (focus (rfl; done)))
    | ((with_reducible refine imp_i ?_); intro _)
    | with_reducible first | refine Ks_n ?_ | refine Ks_r ?_ | refine Ks_e ?_ | refine Kl_e ?_ | refine Kx_n ?_ | refine Kl_r ?_ | refine vRet_i ?_ | refine vSkip_i ?_ | refine vExit_i ?_ | refine vBlock_i ?_ | refine Ks_p ?_ | refine Kl_p ?_ | refine blk_p ?_ | exact Kb_p | refine vGoto_i ?_ | refine vLabel_i ?_ | refine Ks_g ?_ | refine Kl_g ?_ | refine blk_g ?_ | refine jmp_g ?_ | refine jmp_n ?_ | refine jmp_r ?_ | refine nog_n ?_ | refine nog_r ?_ | refine blk_n ?_ | refine blk_r ?_ | refine blk_e ?_ | refine blk_o (by decide) ?_ | refine cp_t ?_ | refine cp_f ?_
    | ((with_reducible apply vCond_x); (focus (simp only [lv, E1, E2, E5, ET, T, orc_mv, noO_mv, mvB, orc_bx, noO_bx, bxB, fwd, fwds, inv, mOk, Int.toNat_natCast, Nat.div_one, Nat.mul_one, Int.reduceToNat, SB, List.not_mem_nil, ↓reduceIte, ne_eq, reduceCtorEq, Nat.reduceLT, Nat.reduceEqDiff, Nat.reduceAdd, Nat.reduceMul, Nat.reduceLeDiff, Nat.reduceDiv, Nat.reduceMod, Nat.reduceSub, Nat.reduceBEq, List.length_map, bs_len, rn_len, chs_len, chs_cnt, List.length_append, List.length_cons, List.length_nil, Ch.x, Opn.x, St.x]; with_reducible first | exact Eq.refl (bo true) | exact Eq.refl (bo false))))
    | ((with_reducible refine And.intro ?_ ?_); (focus (try omega)))
  all_goals try (simp only [numB_len]; omega)
  refine Kf_r ?_
  simp only [Try.f57, E4, E3, E2, E5, rawX, deadX, ET, T, SB, List.not_mem_nil, ↓reduceIte, ne_eq, reduceCtorEq, Nat.reduceLT, Nat.reduceEqDiff, Nat.reduceAdd, Nat.reduceMul, Nat.reduceLeDiff, Nat.reduceDiv, Nat.reduceMod, Nat.reduceSub, Nat.reduceBEq, List.length_map, bs_len, rn_len, chs_len, chs_cnt, List.length_append, List.length_cons, List.length_nil, Ch.x, Opn.x, St.x, pieceF, bs_app, List.append_assoc]
set_option maxRecDepth 10000 in
set_option maxHeartbeats 4000000 in
theorem rwchanges_ok (l : List Ch) (hl : l.length ≤ 100000) (hc : ∀ c ∈ l, c.small) (hr : ∀ c ∈ l, R32s c.gone ∧ R32s c.came) (ha : ∀ c ∈ l, isI c.at_ = true) : CallOk Try.prog 58 [sln 3 (chs l)] (.p (.one (.sr 0))) [(5, 1, bs (chsF l))] true := by
  refine fn_ok' T_ok (orc_ok _) mixed Try.func58 rfl (by kernel_rfl) (lv [[0], [0, 3], [0, 3, 4], [0, 3, 4, 12], [0, 3, 4], [0, 3, 4], [0, 3, 4], [0, 3, 4], [2]]) 40 rfl (by simp) rfl (fun _ => ⟨rfl, rows_raw⟩) ?_
  simp only [argsG, Nat.zero_add, Nat.reduceAdd]
  repeat' first
    | ((first
        | ((with_reducible refine vR_cons (by decide) ?_); generalize hk : KtR _ _ _ _ _ _ _ _ _ _ = k)
        | ((first
        | with_reducible refine vOps_cons' ?_) <;> generalize hk : Kt _ _ _ _ _ _ _ _ _ = k)) <;> (simp only [Try.f58, lv, E1, E2, E5, ET, T, orc_mv, noO_mv, mvB, orc_bx, noO_bx, bxB, fwd, fwds, inv, mOk, Int.toNat_natCast, Nat.div_one, Nat.mul_one, Int.reduceToNat, SB, List.not_mem_nil, ↓reduceIte, ne_eq, reduceCtorEq, Nat.reduceLT, Nat.reduceEqDiff, Nat.reduceAdd, Nat.reduceMul, Nat.reduceLeDiff, Nat.reduceDiv, Nat.reduceMod, Nat.reduceSub, Nat.reduceBEq, List.length_map, bs_len, rn_len, chs_len, chs_cnt, List.length_append, List.length_cons, List.length_nil, Ch.x, Opn.x, St.x]; (try simp (disch := omega) only [wrap_in, Int.toNat_natCast, tv_rn, tv_ch0, tv_ch1, tv_ch2]); subst hk))
    | with_reducible first | refine Kt_p ?_ | refine Kt_i (by kernel_rfl) ?_ | refine Kr_f (by kernel_rfl) ?_
    | (with_reducible refine Kr_t ?_; simp only [List.length_append, List.length_cons, List.length_nil, Nat.reduceAdd, Nat.reduceSub, List.drop_succ_cons, List.drop_zero])
    | with_reducible first | refine vR_nil ?_ | refine KtR_i (by kernel_rfl) ?_ | refine KrR_i (by kernel_rfl) ?_ | refine vR_skip (by decide) ?_
    | ((with_reducible refine vB_i ?_ ?_) <;> intro _ <;> (first | (exfalso; omega) | (exact absurd trivial ‹¬True›) | (try dsimp only [])))
    | ((with_reducible refine vOps_nil' ?_); refine Kr_i (by kernel_rfl) ?_; generalize hk : plain _ _ = G; simp only [lv, E3, E2, E5, rawX, deadX, SB, List.not_mem_nil, ↓reduceIte, ne_eq, reduceCtorEq, Nat.reduceLT, Nat.reduceEqDiff, Nat.reduceAdd, Nat.reduceMul, Nat.reduceLeDiff, Nat.reduceDiv, Nat.reduceMod, Nat.reduceSub, Nat.reduceBEq, List.length_map, bs_len, rn_len, chs_len, chs_cnt, List.length_append, List.length_cons, List.length_nil, Ch.x, Opn.x, St.x] at hk; subst hk)
    | with_reducible refine vSeq_i ?_
    | with_reducible first | refine vRegion_i (by kernel_rfl) ?_ | refine Kv_i ?_
    | ((with_reducible apply vStrK_i); (focus (rfl; done)))
    | ((with_reducible refine imp_i ?_); intro _)
    | with_reducible first | refine Ks_n ?_ | refine Ks_r ?_ | refine Ks_e ?_ | refine Kl_e ?_ | refine Kx_n ?_ | refine Kl_r ?_ | refine vRet_i ?_ | refine vSkip_i ?_ | refine vExit_i ?_ | refine vBlock_i ?_ | refine Ks_p ?_ | refine Kl_p ?_ | refine blk_p ?_ | exact Kb_p | refine vGoto_i ?_ | refine vLabel_i ?_ | refine Ks_g ?_ | refine Kl_g ?_ | refine blk_g ?_ | refine jmp_g ?_ | refine jmp_n ?_ | refine jmp_r ?_ | refine nog_n ?_ | refine nog_r ?_ | refine blk_n ?_ | refine blk_r ?_ | refine blk_e ?_ | refine blk_o (by decide) ?_ | refine cp_t ?_ | refine cp_f ?_
    | ((with_reducible apply vCond_x); (focus (simp only [lv, E1, E2, E5, ET, T, orc_mv, noO_mv, mvB, orc_bx, noO_bx, bxB, fwd, fwds, inv, mOk, Int.toNat_natCast, Nat.div_one, Nat.mul_one, Int.reduceToNat, SB, List.not_mem_nil, ↓reduceIte, ne_eq, reduceCtorEq, Nat.reduceLT, Nat.reduceEqDiff, Nat.reduceAdd, Nat.reduceMul, Nat.reduceLeDiff, Nat.reduceDiv, Nat.reduceMod, Nat.reduceSub, Nat.reduceBEq, List.length_map, bs_len, rn_len, chs_len, chs_cnt, List.length_append, List.length_cons, List.length_nil, Ch.x, Opn.x, St.x]; with_reducible first | exact Eq.refl (bo true) | exact Eq.refl (bo false))))
    | ((with_reducible refine And.intro ?_ ?_); (focus (try omega)))
  all_goals try omega
  refine vLoop_s (fun k : Nat => [(.t 0, .t (sln 3 (chs l))), (.t 3, .t (.p (.one (.sr 0)))), (.t 4, .t (i64 k)), (.row 0, .row 5 1 (bs (((l.length : Int) % 256) :: (l.take k).flatMap chF)))]) (fun k => k ≤ l.length) (fun k => l.length - k) 0 (by omega) (by rw [u8w]; rfl) ?_
  intro k hk
  have hf : ((l.take k).flatMap chF).length ≤ k * 16000012 := by
    have := flat_le (l := l.take k) fun c h => hc c (List.mem_of_mem_take h)
    rw [List.length_take] at this
    exact Nat.le_trans this (Nat.mul_le_mul_right _ (by omega))
  have hp1 := fun h : k < l.length => pieceF_le (l.getD k noCh).gone
  have hp2 := fun h : k < l.length => pieceF_le (l.getD k noCh).came
  have hs := fun h : k < l.length => hc (l.getD k noCh) (mem_getD h)
  have hq := fun h : k < l.length => hr (l.getD k noCh) (mem_getD h)
  have hi := fun h : k < l.length => isI_dest (ha (l.getD k noCh) (mem_getD h))
  repeat' first
    | ((first
        | ((with_reducible refine vR_cons (by decide) ?_); generalize hk : KtR _ _ _ _ _ _ _ _ _ _ = k)
        | ((first
        | with_reducible refine vOps_cons' ?_
        | ((with_reducible apply orc_i); (focus (exact digits_ok _ (hi (by omega)).1 (hi (by omega)).2; done)))
        | ((with_reducible apply orc_i); (focus (exact rpiece_ok _ (hq (by omega)).1 (hs (by omega)).1; done)))
        | ((with_reducible apply orc_i); (focus (exact rpiece_ok _ (hq (by omega)).2 (hs (by omega)).2; done)))) <;> generalize hk : Kt _ _ _ _ _ _ _ _ _ = k)) <;> (simp only [Try.f58, lv, E1, E2, E5, ET, T, orc_mv, noO_mv, mvB, orc_bx, noO_bx, bxB, fwd, fwds, inv, mOk, Int.toNat_natCast, Nat.div_one, Nat.mul_one, Int.reduceToNat, SB, List.not_mem_nil, ↓reduceIte, ne_eq, reduceCtorEq, Nat.reduceLT, Nat.reduceEqDiff, Nat.reduceAdd, Nat.reduceMul, Nat.reduceLeDiff, Nat.reduceDiv, Nat.reduceMod, Nat.reduceSub, Nat.reduceBEq, List.length_map, bs_len, rn_len, chs_len, chs_cnt, List.length_append, List.length_cons, List.length_nil, Ch.x, Opn.x, St.x]; (try simp (disch := omega) only [wrap_in, Int.toNat_natCast, tv_rn, tv_ch0, tv_ch1, tv_ch2]); subst hk))
    | with_reducible first | refine Kt_p ?_ | refine Kt_i (by kernel_rfl) ?_ | refine Kr_f (by kernel_rfl) ?_
    | (with_reducible refine Kr_t ?_; simp only [List.length_append, List.length_cons, List.length_nil, Nat.reduceAdd, Nat.reduceSub, List.drop_succ_cons, List.drop_zero])
    | with_reducible first | refine vR_nil ?_ | refine KtR_i (by kernel_rfl) ?_ | refine KrR_i (by kernel_rfl) ?_ | refine vR_skip (by decide) ?_
    | ((with_reducible refine vB_i ?_ ?_) <;> intro _ <;> (first | (exfalso; omega) | (exact absurd trivial ‹¬True›) | (try dsimp only [])))
    | ((with_reducible refine vOps_nil' ?_); refine Kr_i (by kernel_rfl) ?_; generalize hk : plain _ _ = G; simp only [lv, E3, E2, E5, rawX, deadX, SB, List.not_mem_nil, ↓reduceIte, ne_eq, reduceCtorEq, Nat.reduceLT, Nat.reduceEqDiff, Nat.reduceAdd, Nat.reduceMul, Nat.reduceLeDiff, Nat.reduceDiv, Nat.reduceMod, Nat.reduceSub, Nat.reduceBEq, List.length_map, bs_len, rn_len, chs_len, chs_cnt, List.length_append, List.length_cons, List.length_nil, Ch.x, Opn.x, St.x] at hk; subst hk)
    | with_reducible refine vSeq_i ?_
    | with_reducible first | refine vRegion_i (by kernel_rfl) ?_ | refine Kv_i ?_
    | ((with_reducible apply vStrK_i); (focus (rfl; done)))
    | ((with_reducible refine imp_i ?_); intro _)
    | with_reducible first | refine Ks_n ?_ | refine Ks_r ?_ | refine Ks_e ?_ | refine Kl_e ?_ | refine Kx_n ?_ | refine Kl_r ?_ | refine vRet_i ?_ | refine vSkip_i ?_ | refine vExit_i ?_ | refine vBlock_i ?_ | refine Ks_p ?_ | refine Kl_p ?_ | refine blk_p ?_ | exact Kb_p | refine vGoto_i ?_ | refine vLabel_i ?_ | refine Ks_g ?_ | refine Kl_g ?_ | refine blk_g ?_ | refine jmp_g ?_ | refine jmp_n ?_ | refine jmp_r ?_ | refine nog_n ?_ | refine nog_r ?_ | refine blk_n ?_ | refine blk_r ?_ | refine blk_e ?_ | refine blk_o (by decide) ?_ | refine cp_t ?_ | refine cp_f ?_
    | ((with_reducible apply vCond_x); (focus (simp only [lv, E1, E2, E5, ET, T, orc_mv, noO_mv, mvB, orc_bx, noO_bx, bxB, fwd, fwds, inv, mOk, Int.toNat_natCast, Nat.div_one, Nat.mul_one, Int.reduceToNat, SB, List.not_mem_nil, ↓reduceIte, ne_eq, reduceCtorEq, Nat.reduceLT, Nat.reduceEqDiff, Nat.reduceAdd, Nat.reduceMul, Nat.reduceLeDiff, Nat.reduceDiv, Nat.reduceMod, Nat.reduceSub, Nat.reduceBEq, List.length_map, bs_len, rn_len, chs_len, chs_cnt, List.length_append, List.length_cons, List.length_nil, Ch.x, Opn.x, St.x]; with_reducible first | exact Eq.refl (bo true) | exact Eq.refl (bo false))))
    | ((with_reducible refine And.intro ?_ ?_); (focus (try omega)))
  all_goals try (have := hp1 (by omega); have := hp2 (by omega); have := (hs (by omega)).1; have := (hs (by omega)).2; simp only [List.length_append, List.length_cons, numB_len, bs_len, cnt]; omega)
  · refine Kl_n ⟨k + 1, by omega, by omega, ?_⟩
    rw [flat_1 (by omega)]
    simp only [Int.natCast_add, Int.natCast_one, chF, List.append_assoc, List.cons_append, bs_app, ← List.cons_append]
  · refine Kf_r ?_
    rw [List.take_of_length_le (by omega)]
    simp only [Try.f58, E4, E3, E2, E5, rawX, deadX, ET, T, SB, List.not_mem_nil, ↓reduceIte, ne_eq, reduceCtorEq, Nat.reduceLT, Nat.reduceEqDiff, Nat.reduceAdd, Nat.reduceMul, Nat.reduceLeDiff, Nat.reduceDiv, Nat.reduceMod, Nat.reduceSub, Nat.reduceBEq, List.length_map, bs_len, rn_len, chs_len, chs_cnt, List.length_append, List.length_cons, List.length_nil, Ch.x, Opn.x, St.x, chsF]
set_option maxRecDepth 10000 in
set_option maxHeartbeats 4000000 in
theorem rwstate_ok (n : Int) (s : St) (hs : s.ok) : CallOk Try.prog 28 [i64 n, s.x] (.tup [.one (.sr 0), .one (.v (.raw (.int .i64 (stF n s).2)))]) [(5, 1, bs (stF n s).1)] true := by
  have hu : ∀ c ∈ s.undo, c.small := fun c hc => (hs.undo c hc).small
  have hr : ∀ c ∈ s.redo, c.small := fun c hc => (hs.redo c hc).small
  have l1 := pieceF_le s.text; have l2 := chsF_le hu; have l3 := chsF_le hr; have := hs.len; have := hs.ulen; have := hs.rlen
  have hR := refRight_ok s hs
  simp only [St.x] at hR
  refine fn_ok' T_ok (orc_ok _) mixed Try.func28 rfl (by kernel_rfl) (lv [[0, 3], [0, 3, 10], [4, 5], [0, 3, 6, 1000001], [0, 3, 6, 14], [4, 5], [3, 7], [3, 7], [4, 5]]) 32 rfl (by simp) rfl (fun _ => ⟨rfl, rows_raw⟩) ?_
  simp only [argsG, Nat.zero_add, Nat.reduceAdd, St.x]
  repeat' first
    | ((first
        | ((with_reducible refine vR_cons (by decide) ?_); generalize hk : KtR _ _ _ _ _ _ _ _ _ _ = k)
        | ((first
        | with_reducible refine vOps_cons' ?_
        | ((with_reducible apply orc_b); (focus (exact is1_ok _; done)); (all_goals (intro hb; (try simp only [decide_eq_true_eq, decide_eq_false_iff_not, Bool.not_eq_true', Bool.not_eq_false', Bool.and_eq_true, Decidable.not_not] at hb))))
        | ((with_reducible apply orc_i); (focus (exact hR; done)))
        | ((with_reducible apply orc_i); (focus ((have hb := isI_dest (isI_t ‹_›); exact digits_ok _ hb.1 hb.2); done)))
        | ((with_reducible apply orc_i); (focus (exact rpiece_ok _ hs.run (by omega); done)))
        | ((with_reducible apply orc_i); (focus (exact rwchanges_ok _ hs.ulen hu hs.ru (right_at ‹_›).1; done)))
        | ((with_reducible apply orc_i); (focus (exact rwchanges_ok _ hs.rlen hr hs.rr (right_at ‹_›).2; done)))) <;> generalize hk : Kt _ _ _ _ _ _ _ _ _ = k)) <;> (simp only [Try.f28, lv, E1, E2, E5, ET, T, orc_mv, noO_mv, mvB, orc_bx, noO_bx, bxB, fwd, fwds, inv, mOk, Int.toNat_natCast, Nat.div_one, Nat.mul_one, Int.reduceToNat, SB, List.not_mem_nil, ↓reduceIte, ne_eq, reduceCtorEq, Nat.reduceLT, Nat.reduceEqDiff, Nat.reduceAdd, Nat.reduceMul, Nat.reduceLeDiff, Nat.reduceDiv, Nat.reduceMod, Nat.reduceSub, Nat.reduceBEq, List.length_map, bs_len, rn_len, chs_len, chs_cnt, List.length_append, List.length_cons, List.length_nil, Ch.x, Opn.x, St.x]; (try simp (disch := omega) only [wrap_in, Int.toNat_natCast, tv_rn, tv_ch0, tv_ch1, tv_ch2]); subst hk))
    | with_reducible first | refine Kt_p ?_ | refine Kt_i (by kernel_rfl) ?_ | refine Kr_f (by kernel_rfl) ?_
    | (with_reducible refine Kr_t ?_; simp only [List.length_append, List.length_cons, List.length_nil, Nat.reduceAdd, Nat.reduceSub, List.drop_succ_cons, List.drop_zero])
    | with_reducible first | refine vR_nil ?_ | refine KtR_i (by kernel_rfl) ?_ | refine KrR_i (by kernel_rfl) ?_ | refine vR_skip (by decide) ?_
    | ((with_reducible refine vB_i ?_ ?_) <;> intro _ <;> (first | (exfalso; omega) | (exact absurd trivial ‹¬True›) | (try dsimp only [])))
    | ((with_reducible refine vOps_nil' ?_); refine Kr_i (by kernel_rfl) ?_; generalize hk : plain _ _ = G; simp only [lv, E3, E2, E5, rawX, deadX, SB, List.not_mem_nil, ↓reduceIte, ne_eq, reduceCtorEq, Nat.reduceLT, Nat.reduceEqDiff, Nat.reduceAdd, Nat.reduceMul, Nat.reduceLeDiff, Nat.reduceDiv, Nat.reduceMod, Nat.reduceSub, Nat.reduceBEq, List.length_map, bs_len, rn_len, chs_len, chs_cnt, List.length_append, List.length_cons, List.length_nil, Ch.x, Opn.x, St.x] at hk; subst hk)
    | with_reducible refine vSeq_i ?_
    | with_reducible first | refine vRegion_i (by kernel_rfl) ?_ | refine Kv_i ?_
    | ((with_reducible apply vStrK_i); (focus (rfl; done)))
    | ((with_reducible refine imp_i ?_); intro _)
    | with_reducible first | refine Ks_n ?_ | refine Ks_r ?_ | refine Ks_e ?_ | refine Kl_e ?_ | refine Kx_n ?_ | refine Kl_r ?_ | refine vRet_i ?_ | refine vSkip_i ?_ | refine vExit_i ?_ | refine vBlock_i ?_ | refine Ks_p ?_ | refine Kl_p ?_ | refine blk_p ?_ | exact Kb_p | refine vGoto_i ?_ | refine vLabel_i ?_ | refine Ks_g ?_ | refine Kl_g ?_ | refine blk_g ?_ | refine jmp_g ?_ | refine jmp_n ?_ | refine jmp_r ?_ | refine nog_n ?_ | refine nog_r ?_ | refine blk_n ?_ | refine blk_r ?_ | refine blk_e ?_ | refine blk_o (by decide) ?_ | refine cp_t ?_ | refine cp_f ?_
    | ((with_reducible apply vCond_x); (focus (simp only [lv, E1, E2, E5, ET, T, orc_mv, noO_mv, mvB, orc_bx, noO_bx, bxB, fwd, fwds, inv, mOk, Int.toNat_natCast, Nat.div_one, Nat.mul_one, Int.reduceToNat, SB, List.not_mem_nil, ↓reduceIte, ne_eq, reduceCtorEq, Nat.reduceLT, Nat.reduceEqDiff, Nat.reduceAdd, Nat.reduceMul, Nat.reduceLeDiff, Nat.reduceDiv, Nat.reduceMod, Nat.reduceSub, Nat.reduceBEq, List.length_map, bs_len, rn_len, chs_len, chs_cnt, List.length_append, List.length_cons, List.length_nil, Ch.x, Opn.x, St.x]; with_reducible first | exact Eq.refl (bo true) | exact Eq.refl (bo false))))
    | ((with_reducible refine And.intro ?_ ?_); (focus (try omega)))
  all_goals try (simp only [List.length_append, List.length_cons, numB_len, bs_len, cnt]; omega)
  · rename_i k
    rw [stF_ok (isI_t hb) k]
    refine Kf_r ?_
    simp only [Try.f28, E4, E3, E2, E5, rawX, deadX, ET, T, SB, List.not_mem_nil, ↓reduceIte, ne_eq, reduceCtorEq, Nat.reduceLT, Nat.reduceEqDiff, Nat.reduceAdd, Nat.reduceMul, Nat.reduceLeDiff, Nat.reduceDiv, Nat.reduceMod, Nat.reduceSub, Nat.reduceBEq, List.length_map, bs_len, rn_len, chs_len, chs_cnt, List.length_append, List.length_cons, List.length_nil, Ch.x, Opn.x, St.x, bs_app, List.append_assoc]
  · rename_i k
    rw [stF_r (isI_t hb) k]
    refine Kf_r ?_
    simp only [Try.f28, E4, E3, E2, E5, rawX, deadX, ET, T, SB, List.not_mem_nil, ↓reduceIte, ne_eq, reduceCtorEq, Nat.reduceLT, Nat.reduceEqDiff, Nat.reduceAdd, Nat.reduceMul, Nat.reduceLeDiff, Nat.reduceDiv, Nat.reduceMod, Nat.reduceSub, Nat.reduceBEq, List.length_map, bs_len, rn_len, chs_len, chs_cnt, List.length_append, List.length_cons, List.length_nil, Ch.x, Opn.x, St.x, bs_nil]
  · rw [stF_n (isI_f hb)]
    refine Kf_r ?_
    simp only [Try.f28, E4, E3, E2, E5, rawX, deadX, ET, T, SB, List.not_mem_nil, ↓reduceIte, ne_eq, reduceCtorEq, Nat.reduceLT, Nat.reduceEqDiff, Nat.reduceAdd, Nat.reduceMul, Nat.reduceLeDiff, Nat.reduceDiv, Nat.reduceMod, Nat.reduceSub, Nat.reduceBEq, List.length_map, bs_len, rn_len, chs_len, chs_cnt, List.length_append, List.length_cons, List.length_nil, Ch.x, Opn.x, St.x, bs_nil]
end Go.Proofs.YtdpflafjfkooeaaG
namespace Go.Proofs.YtdpflafjfkooeaaG
open Go Go.RowKit Go.Proofs Go.Proofs.YtdpflafjfkooeaaG.Dec
set_option linter.unusedSimpArgs false
set_option linter.unusedVariables false
theorem stF_e {xs : List Int} {e : Int} (h : readSt xs = .bad e) : readStF xs = (0, st00, e) := by unfold readStF; rw [h]
theorem stF_r0 {xs rest : List Int} {n : Int} {s : St} (h : readSt xs = .ok (n, s) rest) (h0 : rightF s = 0) : readStF xs = (n, s, 0) := by unfold readStF; rw [h]; exact if_pos h0
theorem sameT (s : St) (hs : s.ok) : CallOk Try.prog 15 [s.x, s.x] (bo true) [] true := by
  have hsm : s.small := ⟨Nat.le_trans hs.len (by omega), fun c hc => (hs.undo c hc).small, fun c hc => (hs.redo c hc).small, Nat.le_trans hs.ulen (by omega), Nat.le_trans hs.rlen (by omega)⟩
  have := sameSt_ok s s hsm hsm
  rwa [decide_eq_true rfl] at this
end Go.Proofs.YtdpflafjfkooeaaG
namespace Go.Proofs.YtdpflafjfkooeaaG
open Go Go.RowKit Go.Proofs Go.Proofs.YtdpflafjfkooeaaG.Dec
set_option linter.unusedSimpArgs false
set_option linter.unusedVariables false
theorem readStF_ok {xs : List Int} (g : BytN 100000 xs) : (readStF xs).2.1.ok := by
  cases q : readSt xs with
  | bad e => rw [stF_e q]; exact st00_ok
  | ok p rest =>
    obtain ⟨n, s⟩ := p
    by_cases h0 : rightF s = 0
    · rw [stF_r0 q h0]; exact readSt_ok g q
    · have e : readStF xs = (0, st00, rightF s) := by unfold readStF; rw [q]; exact if_neg h0
      rw [e]; exact st00_ok
end Go.Proofs.YtdpflafjfkooeaaG
namespace Go.Proofs.YtdpflafjfkooeaaG
open Go Go.RowKit Go.Proofs Go.Proofs.YtdpflafjfkooeaaG.Dec
set_option linter.unusedSimpArgs false
set_option linter.unusedVariables false
theorem upto_small {s : St} (h : s.upto 1048576) : s.small :=
  ⟨Nat.le_trans h.len (by omega), fun c hc => ⟨Nat.le_trans (h.undo c hc).gone (by omega), Nat.le_trans (h.undo c hc).came (by omega)⟩, fun c hc => ⟨Nat.le_trans (h.redo c hc).gone (by omega), Nat.le_trans (h.redo c hc).came (by omega)⟩, Nat.le_trans h.ulen (by omega), Nat.le_trans h.rlen (by omega)⟩
set_option maxRecDepth 10000 in
set_option maxHeartbeats 16000000 in
theorem codecStates_law (n : Int) (s : St) (b : List Int) (hs : s.upto 1048576) (hB : Bytes b) (hbl : b.length ≤ 2000000) : CallOk Try.prog 5 [i64 n, s.x, sl (bs b)] (bo true) [] true := by
  have w := works23_ok
  have hsm := upto_small hs
  obtain ⟨m1, m2, m3, m4, m5⟩ := hsm
  have c0 := bulk_ok s m1 m4 m5 (fun c hc => by
    rcases List.mem_append.1 hc with h | h
    · exact m2 c h
    · exact m3 c h)
  by_cases hk : bulkF s ≤ 20000 ∧ b.length ≤ 20000
  · have hok := upto_ok hs hk.1
    have c1 := wstate_ok n s hok
    have c2 := rwstate_ok n s hok
    have c3 := readState_ok b ⟨hB, by omega⟩
    have c4 := rreadState_ok b ⟨hB, by omega⟩
    rw [rr_eq hB] at c4
    have c5 := sameT (readStF b).2.1 (readStF_ok ⟨hB, by omega⟩)
    have c6 := sameT s hok
    have c7 := copy_ok s (upto_small hs)
    generalize bulkF s = k at *
    generalize readStF b = p at *
    obtain ⟨m, t, e⟩ := p
    generalize (stF n s).1 = z at *
    generalize (stF n s).2 = d at *
    obtain ⟨k1, k2⟩ := hk
    refine fn_ok' T_ok (orc_ok _) mixed Try.func5 rfl (by kernel_rfl) (lv [[0, 2, 4], [0, 2, 4, 26], [6], [0, 2, 4, 7, 8, 1000008], [0, 2, 4, 7, 8, 9, 10], [2, 4, 7, 8, 9, 10, 11, 12], [2, 4, 7, 8, 9, 10, 11, 12, 13, 14, 15], [2, 4, 7, 8, 9, 10, 11, 12, 13, 14, 15, 16, 17, 18], [6]]) 97 rfl (by simp) rfl (by simp [X.all, PX.all, TV.rawR, SV.isRaw]) ?_
    simp only [argsG, Nat.zero_add, Nat.reduceAdd, St.x, stE, St.cs] at *
    repeat' first
      | ((first
          | ((with_reducible refine vR_cons (by decide) ?_); generalize hk : KtR _ _ _ _ _ _ _ _ _ _ = k)
          | ((first
          | with_reducible refine vOps_cons' ?_
          | ((with_reducible apply orc_i); (focus (exact c0; done)))
          | ((with_reducible apply orc_b); (focus (exact w; done)); (all_goals (intro hb; (try simp only [decide_eq_true_eq, decide_eq_false_iff_not, Bool.not_eq_true', Bool.not_eq_false', Bool.and_eq_true, Decidable.not_not] at hb))))
          | ((with_reducible apply orc_i); (focus (exact c7; done)))
          | ((with_reducible apply orc_i); (focus (exact c1; done)))
          | ((with_reducible apply orc_i); (focus (exact c2; done)))
          | ((with_reducible apply orc_i); (focus (exact c3; done)))
          | ((with_reducible apply orc_i); (focus (exact c4; done)))
          | ((with_reducible apply orc_b); (focus (exact c5; done)); (all_goals (intro hb; (try simp only [decide_eq_true_eq, decide_eq_false_iff_not, Bool.not_eq_true', Bool.not_eq_false', Bool.and_eq_true, Decidable.not_not] at hb))))
          | ((with_reducible apply orc_b); (focus (exact c6; done)); (all_goals (intro hb; (try simp only [decide_eq_true_eq, decide_eq_false_iff_not, Bool.not_eq_true', Bool.not_eq_false', Bool.and_eq_true, Decidable.not_not] at hb))))) <;> generalize hk : Kt _ _ _ _ _ _ _ _ _ = k)) <;> (simp only [Try.f5, lv, E1, E2, E5, ET, T, orc_mv, noO_mv, mvB, orc_bx, noO_bx, bxB, fwd, fwds, inv, mOk, Int.toNat_natCast, Nat.div_one, Nat.mul_one, Int.reduceToNat, SB, List.not_mem_nil, ↓reduceIte, ne_eq, reduceCtorEq, Nat.reduceLT, Nat.reduceEqDiff, Nat.reduceAdd, Nat.reduceMul, Nat.reduceLeDiff, Nat.reduceDiv, Nat.reduceMod, Nat.reduceSub, Nat.reduceBEq, List.length_map, bs_len, rn_len, chs_len, chs_cnt, Opn.x, St.x]; (try simp (disch := omega) only [wrap_in, Int.toNat_natCast, tv_rn, tv_bst]); subst hk))
      | with_reducible first | refine Kt_p ?_ | refine Kt_i (by kernel_rfl) ?_ | refine Kr_f (by kernel_rfl) ?_
      | (with_reducible refine Kr_t ?_; simp only [List.length_append, List.length_cons, List.length_nil, Nat.reduceAdd, Nat.reduceSub, List.drop_succ_cons, List.drop_zero])
      | with_reducible first | refine vR_nil ?_ | refine KtR_i (by kernel_rfl) ?_ | refine KrR_i (by kernel_rfl) ?_ | refine vR_skip (by decide) ?_
      | ((with_reducible refine vB_i ?_ ?_) <;> intro _ <;> (first | (exfalso; omega) | (exact absurd trivial ‹¬True›) | (try dsimp only [])))
      | ((with_reducible refine vOps_nil' ?_); refine Kr_i (by kernel_rfl) ?_; generalize hk : plain _ _ = G; simp only [lv, E3, E2, E5, rawX, deadX, SB, List.not_mem_nil, ↓reduceIte, ne_eq, reduceCtorEq, Nat.reduceLT, Nat.reduceEqDiff, Nat.reduceAdd, Nat.reduceMul, Nat.reduceLeDiff, Nat.reduceDiv, Nat.reduceMod, Nat.reduceSub, Nat.reduceBEq, List.length_map, bs_len, rn_len, chs_len, chs_cnt, Opn.x, St.x] at hk; subst hk)
      | with_reducible refine vSeq_i ?_
      | with_reducible first | refine vRegion_i (by kernel_rfl) ?_ | refine Kv_i ?_
      | ((with_reducible apply vStrK_i); (focus (rfl; done)))
      | ((with_reducible refine imp_i ?_); intro _)
      | with_reducible first | refine Ks_n ?_ | refine Ks_r ?_ | refine Ks_e ?_ | refine Kl_e ?_ | refine Kx_n ?_ | refine Kl_r ?_ | refine vRet_i ?_ | refine vSkip_i ?_ | refine vExit_i ?_ | refine vBlock_i ?_ | refine Ks_p ?_ | refine Kl_p ?_ | refine blk_p ?_ | exact Kb_p | refine vGoto_i ?_ | refine vLabel_i ?_ | refine Ks_g ?_ | refine Kl_g ?_ | refine blk_g ?_ | refine jmp_g ?_ | refine jmp_n ?_ | refine jmp_r ?_ | refine nog_n ?_ | refine nog_r ?_ | refine blk_n ?_ | refine blk_r ?_ | refine blk_e ?_ | refine blk_o (by decide) ?_ | refine cp_t ?_ | refine cp_f ?_
      | ((with_reducible apply vCond_x); (focus (simp only [lv, E1, E2, E5, ET, T, orc_mv, noO_mv, mvB, orc_bx, noO_bx, bxB, fwd, fwds, inv, mOk, Int.toNat_natCast, Nat.div_one, Nat.mul_one, Int.reduceToNat, SB, List.not_mem_nil, ↓reduceIte, ne_eq, reduceCtorEq, Nat.reduceLT, Nat.reduceEqDiff, Nat.reduceAdd, Nat.reduceMul, Nat.reduceLeDiff, Nat.reduceDiv, Nat.reduceMod, Nat.reduceSub, Nat.reduceBEq, List.length_map, bs_len, rn_len, chs_len, chs_cnt, Opn.x, St.x]; with_reducible first | exact Eq.refl (bo true) | exact Eq.refl (bo false))))
      | ((with_reducible refine And.intro ?_ ?_); (focus (try omega)))
    all_goals first | (exfalso; omega) | (exfalso; exact absurd hb (by decide)) | (refine Kf_r ?_; simp only [Try.f5, E4, E3, E2, E5, rawX, deadX, ET, T, SB, List.not_mem_nil, ↓reduceIte, ne_eq, reduceCtorEq, Nat.reduceLT, Nat.reduceEqDiff, Nat.reduceAdd, Nat.reduceMul, Nat.reduceLeDiff, Nat.reduceDiv, Nat.reduceMod, Nat.reduceSub, Nat.reduceBEq, List.length_map, bs_len, rn_len, chs_len, chs_cnt, Opn.x, St.x]; done) | skip
    all_goals trace_state
  · generalize bulkF s = k at *
    refine fn_ok' T_ok (orc_ok _) mixed Try.func5 rfl (by kernel_rfl) (lv [[0, 2, 4], [0, 2, 4, 26], [6], [0, 2, 4, 7, 8, 1000008], [0, 2, 4, 7, 8, 9, 10], [2, 4, 7, 8, 9, 10, 11, 12], [2, 4, 7, 8, 9, 10, 11, 12, 13, 14, 15], [2, 4, 7, 8, 9, 10, 11, 12, 13, 14, 15, 16, 17, 18], [6]]) 97 rfl (by simp) rfl (by simp [X.all, PX.all, TV.rawR, SV.isRaw]) ?_
    simp only [argsG, Nat.zero_add, Nat.reduceAdd, St.x] at *
    repeat' first
      | ((first
          | ((with_reducible refine vR_cons (by decide) ?_); generalize hk : KtR _ _ _ _ _ _ _ _ _ _ = k)
          | ((first
          | with_reducible refine vOps_cons' ?_
          | ((with_reducible apply orc_i); (focus (exact c0; done)))
          | ((with_reducible apply orc_b); (focus (exact w; done)); (all_goals (intro hb; (try simp only [decide_eq_true_eq, decide_eq_false_iff_not, Bool.not_eq_true', Bool.not_eq_false', Bool.and_eq_true, Decidable.not_not] at hb))))) <;> generalize hk : Kt _ _ _ _ _ _ _ _ _ = k)) <;> (simp only [Try.f5, lv, E1, E2, E5, ET, T, orc_mv, noO_mv, mvB, orc_bx, noO_bx, bxB, fwd, fwds, inv, mOk, Int.toNat_natCast, Nat.div_one, Nat.mul_one, Int.reduceToNat, SB, List.not_mem_nil, ↓reduceIte, ne_eq, reduceCtorEq, Nat.reduceLT, Nat.reduceEqDiff, Nat.reduceAdd, Nat.reduceMul, Nat.reduceLeDiff, Nat.reduceDiv, Nat.reduceMod, Nat.reduceSub, Nat.reduceBEq, List.length_map, bs_len, rn_len, chs_len, chs_cnt, Opn.x, St.x]; (try simp (disch := omega) only [wrap_in, Int.toNat_natCast, tv_rn, tv_bst]); subst hk))
      | with_reducible first | refine Kt_p ?_ | refine Kt_i (by kernel_rfl) ?_ | refine Kr_f (by kernel_rfl) ?_
      | (with_reducible refine Kr_t ?_; simp only [List.length_append, List.length_cons, List.length_nil, Nat.reduceAdd, Nat.reduceSub, List.drop_succ_cons, List.drop_zero])
      | with_reducible first | refine vR_nil ?_ | refine KtR_i (by kernel_rfl) ?_ | refine KrR_i (by kernel_rfl) ?_ | refine vR_skip (by decide) ?_
      | ((with_reducible refine vB_i ?_ ?_) <;> intro _ <;> (first | (exfalso; omega) | (exact absurd trivial ‹¬True›) | (try dsimp only [])))
      | ((with_reducible refine vOps_nil' ?_); refine Kr_i (by kernel_rfl) ?_; generalize hk : plain _ _ = G; simp only [lv, E3, E2, E5, rawX, deadX, SB, List.not_mem_nil, ↓reduceIte, ne_eq, reduceCtorEq, Nat.reduceLT, Nat.reduceEqDiff, Nat.reduceAdd, Nat.reduceMul, Nat.reduceLeDiff, Nat.reduceDiv, Nat.reduceMod, Nat.reduceSub, Nat.reduceBEq, List.length_map, bs_len, rn_len, chs_len, chs_cnt, Opn.x, St.x] at hk; subst hk)
      | with_reducible refine vSeq_i ?_
      | with_reducible first | refine vRegion_i (by kernel_rfl) ?_ | refine Kv_i ?_
      | ((with_reducible apply vStrK_i); (focus (rfl; done)))
      | ((with_reducible refine imp_i ?_); intro _)
      | with_reducible first | refine Ks_n ?_ | refine Ks_r ?_ | refine Ks_e ?_ | refine Kl_e ?_ | refine Kx_n ?_ | refine Kl_r ?_ | refine vRet_i ?_ | refine vSkip_i ?_ | refine vExit_i ?_ | refine vBlock_i ?_ | refine Ks_p ?_ | refine Kl_p ?_ | refine blk_p ?_ | exact Kb_p | refine vGoto_i ?_ | refine vLabel_i ?_ | refine Ks_g ?_ | refine Kl_g ?_ | refine blk_g ?_ | refine jmp_g ?_ | refine jmp_n ?_ | refine jmp_r ?_ | refine nog_n ?_ | refine nog_r ?_ | refine blk_n ?_ | refine blk_r ?_ | refine blk_e ?_ | refine blk_o (by decide) ?_ | refine cp_t ?_ | refine cp_f ?_
      | ((with_reducible apply vCond_x); (focus (simp only [lv, E1, E2, E5, ET, T, orc_mv, noO_mv, mvB, orc_bx, noO_bx, bxB, fwd, fwds, inv, mOk, Int.toNat_natCast, Nat.div_one, Nat.mul_one, Int.reduceToNat, SB, List.not_mem_nil, ↓reduceIte, ne_eq, reduceCtorEq, Nat.reduceLT, Nat.reduceEqDiff, Nat.reduceAdd, Nat.reduceMul, Nat.reduceLeDiff, Nat.reduceDiv, Nat.reduceMod, Nat.reduceSub, Nat.reduceBEq, List.length_map, bs_len, rn_len, chs_len, chs_cnt, Opn.x, St.x]; with_reducible first | exact Eq.refl (bo true) | exact Eq.refl (bo false))))
      | ((with_reducible refine And.intro ?_ ?_); (focus (try omega)))
    all_goals first | (exfalso; omega) | (exfalso; exact absurd hb (by decide)) | (refine Kf_r ?_; simp only [Try.f5, E4, E3, E2, E5, rawX, deadX, ET, T, SB, List.not_mem_nil, ↓reduceIte, ne_eq, reduceCtorEq, Nat.reduceLT, Nat.reduceEqDiff, Nat.reduceAdd, Nat.reduceMul, Nat.reduceLeDiff, Nat.reduceDiv, Nat.reduceMod, Nat.reduceSub, Nat.reduceBEq, List.length_map, bs_len, rn_len, chs_len, chs_cnt, Opn.x, St.x]; done) | skip
    all_goals trace_state
end Go.Proofs.YtdpflafjfkooeaaG
/- L23States: CodecStates at what came in. -/
namespace Go.Proofs.YtdpflafjfkooeaaG
open Go Go.RowKit Go.Proofs Go.Proofs.Ytdpflafjfkooeaa Go.Proofs.YtdpflafjfkooeaaG.Dec
theorem codecStates_in {W : World} {v0 v1 v2 : Value} {x0 x2 : SV} {xs1 : List SV} (t0 : Typ T 1048576 3 [x0]) (a0 : XR W (gI W) v0 (.p (.one (.v x0)))) (t1 : Typ T 1048576 25 xs1) (a1 : XR W (gI W) v1 (.p (.agg (xs1.map .v))))
    (t2 : Typ T 1048576 41 [x2]) (a2 : XR W (gI W) v2 (.p (.one (.v x2)))) :
    Calls Try.prog 5 #[v0, v1, v2] W fun e W' => e = .returned (.bool true) ∧ Below W.heap.size W W' := by
  obtain ⟨n, rfl⟩ := typ_int23 t0
  obtain ⟨s, rfl, h1⟩ := typ_state t1
  obtain ⟨b, rfl, hB, hb⟩ := typ_bytes t2
  exact law_calls (codecStates_law n s b h1 hB (by omega)) (.cons a0 (.cons a1 (.cons a2 .nil)))
end Go.Proofs.YtdpflafjfkooeaaG
