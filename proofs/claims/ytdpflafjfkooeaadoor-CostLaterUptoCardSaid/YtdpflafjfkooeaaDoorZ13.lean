/- YtdpflafjfkooeaaDoorZ13: a part of the proof, joined of its texts. -/
import Derived.Test.YtdpflafjfkooeaaDoorZ12
namespace Go.Proofs.YtdpflafjfkooeaaDoorG
open Go Go.RowKit Go.Proofs
set_option linter.unusedSimpArgs false
/-- An operation. -/
structure Opn where
  kind : Int
  at_ : Int
  to_ : Int
  text : List Int
def Opn.x (o : Opn) : X := .p (.agg [.v (.raw (.int .i64 o.kind)), .v (.raw (.int .i64 o.at_)), .v (.raw (.int .i64 o.to_)), .v (.sl 1 (rn o.text))])
def noCh : Ch := ⟨0, [], []⟩
/-- What an insertion does, or why it does not. -/
def insF (t : List Int) (o : Opn) : Ch × Int := if o.text.length = 0 then (noCh, 2) else if ¬ scal o.text then (noCh, 11) else if o.at_ < 0 ∨ o.at_ > t.length then (noCh, 4) else if (o.text.length : Int) > 4096 - t.length then (noCh, 3) else (⟨o.at_, [], o.text⟩, 0)
def remF (t : List Int) (o : Opn) : Ch × Int := if o.at_ < 0 ∨ o.to_ > t.length ∨ o.at_ > o.to_ then (noCh, 4) else if o.at_ = o.to_ then (noCh, 2) else (⟨o.at_, (t.drop o.at_.toNat).take (o.to_ - o.at_).toNat, []⟩, 0)
def Ch.rx (c : Ch) (e : Int) : X := .tup [.agg [.v (.raw (.int .i64 c.at_)), .sr 0, .sr 1], .one (.v (.raw (.int .i64 e)))]
def Ch.rr (c : Ch) : Rows := [(21, 1, rn c.gone), (21, 1, rn c.came)]
theorem Ch.rr_raw {c : Ch} : ∀ r ∈ c.rr, ∀ x ∈ r.2.2, x.isRaw = true := by
  intro r hr; simp [Ch.rr] at hr; rcases hr with rfl | rfl <;> exact rn_raw
theorem rn_nil : rn [] = [] := rfl
set_option maxRecDepth 10000 in
set_option maxHeartbeats 4000000 in
theorem insert_ok (t : List Int) (o : Opn) (ht : t.length ≤ 1000000) (h1 : o.text.length ≤ 1000000) (r1 : R32s o.text) : CallOk Tryd.prog 51 [sl (rn t), o.x] ((insF t o).1.rx (insF t o).2) (insF t o).1.rr true := by
  refine fn_ok' T_ok (orc_ok _) mixed Tryd.func51 rfl (by kernel_rfl) (lv [[0, 3, 4], [0, 3, 4, 6], [4, 5], [0, 3, 4, 12], [4, 5], [0, 3, 4, 18], [4, 5], [3, 4, 30], [4, 5], [4, 5]]) 45 rfl (by simp) rfl (fun _ => ⟨rfl, Ch.rr_raw⟩) ?_
  rcases hI : insF t o with ⟨c, e⟩
  simp only [argsG, Nat.zero_add, Nat.reduceAdd, Opn.x]
  repeat' first
    | ((first
        | ((with_reducible refine vR_cons (by decide) ?_); generalize hk : KtR _ _ _ _ _ _ _ _ _ _ = k)
        | ((first
        | with_reducible refine vOps_cons' ?_
        | ((with_reducible apply orc_b); (focus (with_reducible exact scal_ok _ r1 (by omega); done)); (all_goals (intro hb; (try simp only [decide_eq_true_eq, decide_eq_false_iff_not, Bool.not_eq_true', Bool.not_eq_false', Bool.and_eq_true, Decidable.not_not] at hb))))
        | ((with_reducible apply orc_i); (focus (with_reducible exact cloneR_ok _ (by omega); done)))) <;> generalize hk : Kt _ _ _ _ _ _ _ _ _ = k)) <;> (simp only [Tryd.f51, lv, E1, E2, E5, ET, T, orc_mv, noO_mv, mvB, orc_bx, noO_bx, bxB, orc_sx, noO_sx, sxB, fwd, fwds, inv, mOk, Int.toNat_natCast, Nat.div_one, Nat.mul_one, Int.reduceToNat, SB, List.not_mem_nil, ↓reduceIte, ne_eq, reduceCtorEq, Nat.reduceLT, Nat.reduceEqDiff, Nat.reduceAdd, Nat.reduceMul, Nat.reduceLeDiff, Nat.reduceDiv, Nat.reduceMod, Nat.reduceSub, Nat.reduceBEq, rn_len, List.length_map, Ch.x, Opn.x, cut_rn, take_drop_len, List.length_append, List.length_take, List.length_drop, ← rn_app, Int.sub_zero]; (try simp (disch := omega) only [wrap_in, Int.toNat_natCast, tv_rn]); subst hk))
    | with_reducible first | refine Kt_p ?_ | refine Kt_i (by kernel_rfl) ?_ | refine Kr_f (by kernel_rfl) ?_
    | (with_reducible refine Kr_t ?_; simp only [List.length_append, List.length_cons, List.length_nil, Nat.reduceAdd, Nat.reduceSub, List.drop_succ_cons, List.drop_zero])
    | with_reducible first | refine vR_nil ?_ | refine KtR_i (by kernel_rfl) ?_ | refine KrR_i (by kernel_rfl) ?_ | refine vR_skip (by decide) ?_
    | ((with_reducible refine vB_i ?_ ?_) <;> intro _ <;> (first | (exfalso; omega) | (exact absurd trivial ‹¬True›) | (try dsimp only [])))
    | ((with_reducible refine vOps_nil' ?_); refine Kr_i (by kernel_rfl) ?_; generalize hk : plain _ _ = G; simp only [lv, E3, E2, E5, rawX, deadX, SB, List.not_mem_nil, ↓reduceIte, ne_eq, reduceCtorEq, Nat.reduceLT, Nat.reduceEqDiff, Nat.reduceAdd, Nat.reduceMul, Nat.reduceLeDiff, Nat.reduceDiv, Nat.reduceMod, Nat.reduceSub, Nat.reduceBEq, rn_len, List.length_map, Ch.x, Opn.x, cut_rn, take_drop_len, List.length_append, List.length_take, List.length_drop, ← rn_app, Int.sub_zero] at hk; subst hk)
    | with_reducible refine vSeq_i ?_
    | with_reducible first | refine vRegion_i (by kernel_rfl) ?_ | refine Kv_i ?_
    | ((with_reducible apply vStrK_i); (focus (rfl; done)))
    | ((with_reducible refine imp_i ?_); intro _)
    | with_reducible first | refine Ks_n ?_ | refine Ks_r ?_ | refine Ks_e ?_ | refine Kl_e ?_ | refine Kx_n ?_ | refine Kl_r ?_ | refine vRet_i ?_ | refine vSkip_i ?_ | refine vExit_i ?_ | refine vBlock_i ?_ | refine Ks_p ?_ | refine Kl_p ?_ | refine blk_p ?_ | exact Kb_p | refine vGoto_i ?_ | refine vLabel_i ?_ | refine Ks_g ?_ | refine Kl_g ?_ | refine blk_g ?_ | refine jmp_g ?_ | refine jmp_n ?_ | refine jmp_r ?_ | refine nog_n ?_ | refine nog_r ?_ | refine blk_n ?_ | refine blk_r ?_ | refine blk_e ?_ | refine blk_o (by decide) ?_ | refine cp_t ?_ | refine cp_f ?_
    | ((with_reducible apply vCond_x); (focus (simp only [lv, E1, E2, E5, ET, T, orc_mv, noO_mv, mvB, orc_bx, noO_bx, bxB, orc_sx, noO_sx, sxB, fwd, fwds, inv, mOk, Int.toNat_natCast, Nat.div_one, Nat.mul_one, Int.reduceToNat, SB, List.not_mem_nil, ↓reduceIte, ne_eq, reduceCtorEq, Nat.reduceLT, Nat.reduceEqDiff, Nat.reduceAdd, Nat.reduceMul, Nat.reduceLeDiff, Nat.reduceDiv, Nat.reduceMod, Nat.reduceSub, Nat.reduceBEq, rn_len, List.length_map, Ch.x, Opn.x, cut_rn, take_drop_len, List.length_append, List.length_take, List.length_drop, ← rn_app, Int.sub_zero]; with_reducible first | exact Eq.refl (bo true) | exact Eq.refl (bo false))))
    | ((with_reducible refine And.intro ?_ ?_); (focus (try omega)))
  all_goals
    unfold insF at hI
    (repeat' split at hI)
    all_goals first
      | (exfalso; first | contradiction | omega)
      | (simp only [Prod.mk.injEq] at hI
         obtain ⟨rfl, rfl⟩ := hI
         refine Kf_r ?_
         simp only [Tryd.f51, E4, E3, E2, E5, rawX, deadX, ET, T, SB, List.not_mem_nil, ↓reduceIte, ne_eq, reduceCtorEq, Nat.reduceLT, Nat.reduceEqDiff, Nat.reduceAdd, Nat.reduceMul, Nat.reduceLeDiff, Nat.reduceDiv, Nat.reduceMod, Nat.reduceSub, Nat.reduceBEq, rn_len, List.length_map, Ch.x, Opn.x, cut_rn, take_drop_len, List.length_append, List.length_take, List.length_drop, ← rn_app, Int.sub_zero, Ch.rx, Ch.rr, noCh, rn_nil]
         done)
set_option maxRecDepth 10000 in
set_option maxHeartbeats 4000000 in
theorem remove_ok (t : List Int) (o : Opn) (ht : t.length ≤ 1000000) : CallOk Tryd.prog 52 [sl (rn t), o.x] ((remF t o).1.rx (remF t o).2) (remF t o).1.rr true := by
  refine fn_ok' T_ok (orc_ok _) mixed Tryd.func52 rfl (by kernel_rfl) (lv [[0, 3, 4], [0, 3, 4, 6], [4, 5], [0, 3, 4, 25], [4, 5], [4, 5]]) 42 rfl (by simp) rfl (fun _ => ⟨rfl, Ch.rr_raw⟩) ?_
  rcases hI : remF t o with ⟨c, e⟩
  simp only [argsG, Nat.zero_add, Nat.reduceAdd, Opn.x]
  repeat' first
    | ((first
        | ((with_reducible refine vR_cons (by decide) ?_); generalize hk : KtR _ _ _ _ _ _ _ _ _ _ = k)
        | ((first
        | with_reducible refine vOps_cons' ?_
        | ((with_reducible apply orc_i); (focus (with_reducible exact cloneR_ok _ (by simp only [List.length_take, List.length_drop]; omega); done)))) <;> generalize hk : Kt _ _ _ _ _ _ _ _ _ = k)) <;> (simp only [Tryd.f52, lv, E1, E2, E5, ET, T, orc_mv, noO_mv, mvB, orc_bx, noO_bx, bxB, orc_sx, noO_sx, sxB, fwd, fwds, inv, mOk, Int.toNat_natCast, Nat.div_one, Nat.mul_one, Int.reduceToNat, SB, List.not_mem_nil, ↓reduceIte, ne_eq, reduceCtorEq, Nat.reduceLT, Nat.reduceEqDiff, Nat.reduceAdd, Nat.reduceMul, Nat.reduceLeDiff, Nat.reduceDiv, Nat.reduceMod, Nat.reduceSub, Nat.reduceBEq, rn_len, List.length_map, Ch.x, Opn.x, cut_rn, take_drop_len, List.length_append, List.length_take, List.length_drop, ← rn_app, Int.sub_zero]; (try simp (disch := omega) only [wrap_in, Int.toNat_natCast, tv_rn]); subst hk))
    | with_reducible first | refine Kt_p ?_ | refine Kt_i (by kernel_rfl) ?_ | refine Kr_f (by kernel_rfl) ?_
    | (with_reducible refine Kr_t ?_; simp only [List.length_append, List.length_cons, List.length_nil, Nat.reduceAdd, Nat.reduceSub, List.drop_succ_cons, List.drop_zero])
    | with_reducible first | refine vR_nil ?_ | refine KtR_i (by kernel_rfl) ?_ | refine KrR_i (by kernel_rfl) ?_ | refine vR_skip (by decide) ?_
    | ((with_reducible refine vB_i ?_ ?_) <;> intro _ <;> (first | (exfalso; omega) | (exact absurd trivial ‹¬True›) | (try dsimp only [])))
    | ((with_reducible refine vOps_nil' ?_); refine Kr_i (by kernel_rfl) ?_; generalize hk : plain _ _ = G; simp only [lv, E3, E2, E5, rawX, deadX, SB, List.not_mem_nil, ↓reduceIte, ne_eq, reduceCtorEq, Nat.reduceLT, Nat.reduceEqDiff, Nat.reduceAdd, Nat.reduceMul, Nat.reduceLeDiff, Nat.reduceDiv, Nat.reduceMod, Nat.reduceSub, Nat.reduceBEq, rn_len, List.length_map, Ch.x, Opn.x, cut_rn, take_drop_len, List.length_append, List.length_take, List.length_drop, ← rn_app, Int.sub_zero] at hk; subst hk)
    | with_reducible refine vSeq_i ?_
    | with_reducible first | refine vRegion_i (by kernel_rfl) ?_ | refine Kv_i ?_
    | ((with_reducible apply vStrK_i); (focus (rfl; done)))
    | ((with_reducible refine imp_i ?_); intro _)
    | with_reducible first | refine Ks_n ?_ | refine Ks_r ?_ | refine Ks_e ?_ | refine Kl_e ?_ | refine Kx_n ?_ | refine Kl_r ?_ | refine vRet_i ?_ | refine vSkip_i ?_ | refine vExit_i ?_ | refine vBlock_i ?_ | refine Ks_p ?_ | refine Kl_p ?_ | refine blk_p ?_ | exact Kb_p | refine vGoto_i ?_ | refine vLabel_i ?_ | refine Ks_g ?_ | refine Kl_g ?_ | refine blk_g ?_ | refine jmp_g ?_ | refine jmp_n ?_ | refine jmp_r ?_ | refine nog_n ?_ | refine nog_r ?_ | refine blk_n ?_ | refine blk_r ?_ | refine blk_e ?_ | refine blk_o (by decide) ?_ | refine cp_t ?_ | refine cp_f ?_
    | ((with_reducible apply vCond_x); (focus (simp only [lv, E1, E2, E5, ET, T, orc_mv, noO_mv, mvB, orc_bx, noO_bx, bxB, orc_sx, noO_sx, sxB, fwd, fwds, inv, mOk, Int.toNat_natCast, Nat.div_one, Nat.mul_one, Int.reduceToNat, SB, List.not_mem_nil, ↓reduceIte, ne_eq, reduceCtorEq, Nat.reduceLT, Nat.reduceEqDiff, Nat.reduceAdd, Nat.reduceMul, Nat.reduceLeDiff, Nat.reduceDiv, Nat.reduceMod, Nat.reduceSub, Nat.reduceBEq, rn_len, List.length_map, Ch.x, Opn.x, cut_rn, take_drop_len, List.length_append, List.length_take, List.length_drop, ← rn_app, Int.sub_zero]; with_reducible first | exact Eq.refl (bo true) | exact Eq.refl (bo false))))
    | ((with_reducible refine And.intro ?_ ?_); (focus (try omega)))
  all_goals
    unfold remF at hI
    (repeat' split at hI)
    all_goals first
      | (exfalso; first | contradiction | omega)
      | (simp only [Prod.mk.injEq] at hI
         obtain ⟨rfl, rfl⟩ := hI
         refine Kf_r ?_
         simp only [Tryd.f52, E4, E3, E2, E5, rawX, deadX, ET, T, SB, List.not_mem_nil, ↓reduceIte, ne_eq, reduceCtorEq, Nat.reduceLT, Nat.reduceEqDiff, Nat.reduceAdd, Nat.reduceMul, Nat.reduceLeDiff, Nat.reduceDiv, Nat.reduceMod, Nat.reduceSub, Nat.reduceBEq, rn_len, List.length_map, Ch.x, Opn.x, cut_rn, take_drop_len, List.length_append, List.length_take, List.length_drop, ← rn_app, Int.sub_zero, Ch.rx, Ch.rr, noCh, rn_nil]
         done)
/-- Changes, one behind the other. -/
def chs (l : List Ch) : List SV := l.flatMap fun c => [.raw (.int .i64 c.at_), .sl 1 (rn c.gone), .sl 1 (rn c.came)]
theorem chs_len (l : List Ch) : (chs l).length = 3 * l.length := by
  induction l with
  | nil => rfl
  | cons c l ih => simp only [chs, List.flatMap_cons, List.length_append] at *; simp [ih]; omega
theorem chs_cnt (l : List Ch) : cnt 3 (chs l) = l.length := by simp [cnt, chs_len]
theorem chs_cons (c : Ch) (l : List Ch) : chs (c :: l) = .raw (.int .i64 c.at_) :: .sl 1 (rn c.gone) :: .sl 1 (rn c.came) :: chs l := rfl
theorem chs_app (a b : List Ch) : chs (a ++ b) = chs a ++ chs b := by simp [chs]
theorem tv_ch0 {l : List Ch} {k : Nat} (h : k < l.length) : (List.map TV.v (chs l)).getD (k * 3) .dead = .v (.raw (.int .i64 (l.getD k noCh).at_)) := by
  induction l generalizing k with
  | nil => simp at h
  | cons c l ih => cases k with
    | zero => rfl
    | succ k => simp only [List.length_cons] at h; have := ih (k := k) (by omega); simpa [chs_cons, Nat.succ_mul, List.getD] using this
theorem tv_ch1 {l : List Ch} {k : Nat} (h : k < l.length) : (List.map TV.v (chs l)).getD (k * 3 + 1) .dead = .v (.sl 1 (rn (l.getD k noCh).gone)) := by
  induction l generalizing k with
  | nil => simp at h
  | cons c l ih => cases k with
    | zero => rfl
    | succ k => simp only [List.length_cons] at h; have := ih (k := k) (by omega); simpa [chs_cons, Nat.succ_mul, List.getD, show k * 3 + 3 + 1 = k * 3 + 1 + 3 by omega] using this
theorem tv_ch2 {l : List Ch} {k : Nat} (h : k < l.length) : (List.map TV.v (chs l)).getD (k * 3 + 2) .dead = .v (.sl 1 (rn (l.getD k noCh).came)) := by
  induction l generalizing k with
  | nil => simp at h
  | cons c l ih => cases k with
    | zero => rfl
    | succ k => simp only [List.length_cons] at h; have := ih (k := k) (by omega); simpa [chs_cons, Nat.succ_mul, List.getD, show k * 3 + 3 + 2 = k * 3 + 2 + 3 by omega] using this
theorem mem_getD {l : List Ch} {k : Nat} (h : k < l.length) : l.getD k noCh ∈ l := by
  simp [List.getD, List.getElem?_eq_getElem h]
theorem chs_take1 {l : List Ch} {k : Nat} (h : k < l.length) : chs (l.take (k + 1)) = chs (l.take k) ++ [.raw (.int .i64 (l.getD k noCh).at_), .sl 1 (rn (l.getD k noCh).gone), .sl 1 (rn (l.getD k noCh).came)] := by
  rw [List.take_succ_eq_append_getElem h, chs_app]
  simp [chs, List.getD, List.getElem?_eq_getElem h]
def Ch.all (p : Ch → Prop) (l : List Ch) : Prop := ∀ c ∈ l, p c
end Go.Proofs.YtdpflafjfkooeaaDoorG
namespace Go.Proofs.YtdpflafjfkooeaaDoorG
open Go Go.RowKit Go.Proofs
set_option linter.unusedSimpArgs false
set_option maxRecDepth 10000 in
set_option maxHeartbeats 400000 in
theorem copied_ok (l : List Ch) (hl : l.length ≤ 1000000) (hc : ∀ c ∈ l, c.small) : CallOk Tryd.prog 33 [sln 3 (chs l)] (.p (.one (.sr 0))) [(64, 3, chs l)] false := by
  refine fn_ok' T_ok (orc_ok _) mixed Tryd.func33 rfl (by kernel_rfl) (lv [[0], [0, 3], [3, 6, 7, 8], [3, 6, 7, 8, 9], [3, 5, 6, 7, 8], [3, 6, 7, 8], [3, 6, 7, 8], [2]]) 20 rfl (by simp) rfl (by simp) ?_
  simp only [argsG, Nat.zero_add, Nat.reduceAdd]
  repeat' first
    | ((first
        | ((with_reducible refine vR_cons (by decide) ?_); generalize hk : KtR _ _ _ _ _ _ _ _ _ _ = k)
        | ((first
        | with_reducible refine vOps_cons' ?_) <;> generalize hk : Kt _ _ _ _ _ _ _ _ _ = k)) <;> (simp only [Tryd.f33, lv, E1, E2, E5, ET, T, orc_mv, noO_mv, mvB, orc_bx, noO_bx, bxB, orc_sx, noO_sx, sxB, fwd, fwds, inv, mOk, Int.toNat_natCast, Nat.div_one, Nat.mul_one, Int.reduceToNat, SB, List.not_mem_nil, ↓reduceIte, ne_eq, reduceCtorEq, Nat.reduceLT, Nat.reduceEqDiff, Nat.reduceAdd, Nat.reduceMul, Nat.reduceLeDiff, Nat.reduceDiv, Nat.reduceMod, Nat.reduceSub, Nat.reduceBEq, rn_len, chs_len, chs_cnt, List.length_map, Ch.x, Ch.inv, Opn.x, cut_rn, take_drop_len, List.length_append, List.length_take, List.length_drop, ← rn_app, Int.sub_zero]; (try simp (disch := omega) only [wrap_in, Int.toNat_natCast, tv_rn, tv_ch0, tv_ch1, tv_ch2]); subst hk))
    | with_reducible first | refine Kt_p ?_ | refine Kt_i (by kernel_rfl) ?_ | refine Kr_f (by kernel_rfl) ?_
    | (with_reducible refine Kr_t ?_; simp only [List.length_append, List.length_cons, List.length_nil, Nat.reduceAdd, Nat.reduceSub, List.drop_succ_cons, List.drop_zero])
    | with_reducible first | refine vR_nil ?_ | refine KtR_i (by kernel_rfl) ?_ | refine KrR_i (by kernel_rfl) ?_ | refine vR_skip (by decide) ?_
    | ((with_reducible refine vB_i ?_ ?_) <;> intro _ <;> (first | (exfalso; omega) | (exact absurd trivial ‹¬True›) | (try dsimp only [])))
    | ((with_reducible refine vOps_nil' ?_); refine Kr_i (by kernel_rfl) ?_; generalize hk : plain _ _ = G; simp only [lv, E3, E2, E5, rawX, deadX, SB, List.not_mem_nil, ↓reduceIte, ne_eq, reduceCtorEq, Nat.reduceLT, Nat.reduceEqDiff, Nat.reduceAdd, Nat.reduceMul, Nat.reduceLeDiff, Nat.reduceDiv, Nat.reduceMod, Nat.reduceSub, Nat.reduceBEq, rn_len, chs_len, chs_cnt, List.length_map, Ch.x, Ch.inv, Opn.x, cut_rn, take_drop_len, List.length_append, List.length_take, List.length_drop, ← rn_app, Int.sub_zero] at hk; subst hk)
    | with_reducible refine vSeq_i ?_
    | with_reducible first | refine vRegion_i (by kernel_rfl) ?_ | refine Kv_i ?_
    | ((with_reducible apply vStrK_i); (focus (rfl; done)))
    | ((with_reducible refine imp_i ?_); intro _)
    | with_reducible first | refine Ks_n ?_ | refine Ks_r ?_ | refine Ks_e ?_ | refine Kl_e ?_ | refine Kx_n ?_ | refine Kl_r ?_ | refine vRet_i ?_ | refine vSkip_i ?_ | refine vExit_i ?_ | refine vBlock_i ?_ | refine Ks_p ?_ | refine Kl_p ?_ | refine blk_p ?_ | exact Kb_p | refine vGoto_i ?_ | refine vLabel_i ?_ | refine Ks_g ?_ | refine Kl_g ?_ | refine blk_g ?_ | refine jmp_g ?_ | refine jmp_n ?_ | refine jmp_r ?_ | refine nog_n ?_ | refine nog_r ?_ | refine blk_n ?_ | refine blk_r ?_ | refine blk_e ?_ | refine blk_o (by decide) ?_ | refine cp_t ?_ | refine cp_f ?_
    | ((with_reducible apply vCond_x); (focus (simp only [lv, E1, E2, E5, ET, T, orc_mv, noO_mv, mvB, orc_bx, noO_bx, bxB, orc_sx, noO_sx, sxB, fwd, fwds, inv, mOk, Int.toNat_natCast, Nat.div_one, Nat.mul_one, Int.reduceToNat, SB, List.not_mem_nil, ↓reduceIte, ne_eq, reduceCtorEq, Nat.reduceLT, Nat.reduceEqDiff, Nat.reduceAdd, Nat.reduceMul, Nat.reduceLeDiff, Nat.reduceDiv, Nat.reduceMod, Nat.reduceSub, Nat.reduceBEq, rn_len, chs_len, chs_cnt, List.length_map, Ch.x, Ch.inv, Opn.x, cut_rn, take_drop_len, List.length_append, List.length_take, List.length_drop, ← rn_app, Int.sub_zero]; with_reducible first | exact Eq.refl (bo true) | exact Eq.refl (bo false))))
    | ((with_reducible refine And.intro ?_ ?_); (focus (try omega)))
  refine vLoop_s (fun k : Nat => [(.t 3, .t (.p (.one (.sr 0)))), (.t 6, .t (sln 3 (chs l))), (.t 7, .t (i64 l.length)), (.t 8, .t (i64 k)), (.row 0, .row 64 3 (chs (l.take k)))]) (fun k => k ≤ l.length) (fun k => l.length - k) 0 (by omega) (by simp only [List.take_zero, chs, List.flatMap_nil]; rfl) ?_
  intro k hk
  repeat' first
    | ((first
        | ((with_reducible refine vR_cons (by decide) ?_); generalize hk : KtR _ _ _ _ _ _ _ _ _ _ = k)
        | ((first
        | with_reducible refine vOps_cons' ?_
        | ((with_reducible apply orc_i); (focus (exact inverse_ok (l.getD k noCh) (hc _ (mem_getD (by omega))); done)))
        | ((with_reducible apply orc_i); (focus (exact inverse_ok (Ch.inv (l.getD k noCh)) (And.symm (hc _ (mem_getD (by omega)))); done)))) <;> generalize hk : Kt _ _ _ _ _ _ _ _ _ = k)) <;> (simp only [Tryd.f33, lv, E1, E2, E5, ET, T, orc_mv, noO_mv, mvB, orc_bx, noO_bx, bxB, orc_sx, noO_sx, sxB, fwd, fwds, inv, mOk, Int.toNat_natCast, Nat.div_one, Nat.mul_one, Int.reduceToNat, SB, List.not_mem_nil, ↓reduceIte, ne_eq, reduceCtorEq, Nat.reduceLT, Nat.reduceEqDiff, Nat.reduceAdd, Nat.reduceMul, Nat.reduceLeDiff, Nat.reduceDiv, Nat.reduceMod, Nat.reduceSub, Nat.reduceBEq, rn_len, chs_len, chs_cnt, List.length_map, Ch.x, Ch.inv, Opn.x, cut_rn, take_drop_len, List.length_append, List.length_take, List.length_drop, ← rn_app, Int.sub_zero]; (try simp (disch := omega) only [wrap_in, Int.toNat_natCast, tv_rn, tv_ch0, tv_ch1, tv_ch2]); subst hk))
    | with_reducible first | refine Kt_p ?_ | refine Kt_i (by kernel_rfl) ?_ | refine Kr_f (by kernel_rfl) ?_
    | (with_reducible refine Kr_t ?_; simp only [List.length_append, List.length_cons, List.length_nil, Nat.reduceAdd, Nat.reduceSub, List.drop_succ_cons, List.drop_zero])
    | with_reducible first | refine vR_nil ?_ | refine KtR_i (by kernel_rfl) ?_ | refine KrR_i (by kernel_rfl) ?_ | refine vR_skip (by decide) ?_
    | ((with_reducible refine vB_i ?_ ?_) <;> intro _ <;> (first | (exfalso; omega) | (exact absurd trivial ‹¬True›) | (try dsimp only [])))
    | ((with_reducible refine vOps_nil' ?_); refine Kr_i (by kernel_rfl) ?_; generalize hk : plain _ _ = G; simp only [lv, E3, E2, E5, rawX, deadX, SB, List.not_mem_nil, ↓reduceIte, ne_eq, reduceCtorEq, Nat.reduceLT, Nat.reduceEqDiff, Nat.reduceAdd, Nat.reduceMul, Nat.reduceLeDiff, Nat.reduceDiv, Nat.reduceMod, Nat.reduceSub, Nat.reduceBEq, rn_len, chs_len, chs_cnt, List.length_map, Ch.x, Ch.inv, Opn.x, cut_rn, take_drop_len, List.length_append, List.length_take, List.length_drop, ← rn_app, Int.sub_zero] at hk; subst hk)
    | with_reducible refine vSeq_i ?_
    | with_reducible first | refine vRegion_i (by kernel_rfl) ?_ | refine Kv_i ?_
    | ((with_reducible apply vStrK_i); (focus (rfl; done)))
    | ((with_reducible refine imp_i ?_); intro _)
    | with_reducible first | refine Ks_n ?_ | refine Ks_r ?_ | refine Ks_e ?_ | refine Kl_e ?_ | refine Kx_n ?_ | refine Kl_r ?_ | refine vRet_i ?_ | refine vSkip_i ?_ | refine vExit_i ?_ | refine vBlock_i ?_ | refine Ks_p ?_ | refine Kl_p ?_ | refine blk_p ?_ | exact Kb_p | refine vGoto_i ?_ | refine vLabel_i ?_ | refine Ks_g ?_ | refine Kl_g ?_ | refine blk_g ?_ | refine jmp_g ?_ | refine jmp_n ?_ | refine jmp_r ?_ | refine nog_n ?_ | refine nog_r ?_ | refine blk_n ?_ | refine blk_r ?_ | refine blk_e ?_ | refine blk_o (by decide) ?_ | refine cp_t ?_ | refine cp_f ?_
    | ((with_reducible apply vCond_x); (focus (simp only [lv, E1, E2, E5, ET, T, orc_mv, noO_mv, mvB, orc_bx, noO_bx, bxB, orc_sx, noO_sx, sxB, fwd, fwds, inv, mOk, Int.toNat_natCast, Nat.div_one, Nat.mul_one, Int.reduceToNat, SB, List.not_mem_nil, ↓reduceIte, ne_eq, reduceCtorEq, Nat.reduceLT, Nat.reduceEqDiff, Nat.reduceAdd, Nat.reduceMul, Nat.reduceLeDiff, Nat.reduceDiv, Nat.reduceMod, Nat.reduceSub, Nat.reduceBEq, rn_len, chs_len, chs_cnt, List.length_map, Ch.x, Ch.inv, Opn.x, cut_rn, take_drop_len, List.length_append, List.length_take, List.length_drop, ← rn_app, Int.sub_zero]; with_reducible first | exact Eq.refl (bo true) | exact Eq.refl (bo false))))
    | ((with_reducible refine And.intro ?_ ?_); (focus (try omega)))
  · simp only [cnt, List.length_cons, List.length_nil]; omega
  · refine Kl_n ⟨k + 1, by omega, by omega, ?_⟩
    rw [chs_take1 (by omega)]
    simp only [Int.natCast_add, Int.natCast_one]
  · refine Kf_r ?_
    rw [List.take_of_length_le (by omega)]
    simp only [Tryd.f33, E4, E3, E2, E5, rawX, deadX, ET, T, SB, List.not_mem_nil, ↓reduceIte, ne_eq, reduceCtorEq, Nat.reduceLT, Nat.reduceEqDiff, Nat.reduceAdd, Nat.reduceMul, Nat.reduceLeDiff, Nat.reduceDiv, Nat.reduceMod, Nat.reduceSub, Nat.reduceBEq, rn_len, chs_len, chs_cnt, List.length_map, Ch.x, Ch.inv, Opn.x, cut_rn, take_drop_len, List.length_append, List.length_take, List.length_drop, ← rn_app, Int.sub_zero]
end Go.Proofs.YtdpflafjfkooeaaDoorG
namespace Go.Proofs.YtdpflafjfkooeaaDoorG
open Go Go.RowKit Go.Proofs
set_option linter.unusedSimpArgs false
/-- A state. -/
structure St where
  text : List Int
  undo : List Ch
  redo : List Ch
def St.x (s : St) : X := .p (.agg [.v (.sl 1 (rn s.text)), .v (.sl 3 (chs s.undo)), .v (.sl 3 (chs s.redo))])
/-- A change of a size, of runes. -/
structure Ch.ok (c : Ch) : Prop where
  gone : c.gone.length ≤ 100000
  came : c.came.length ≤ 100000
  rgone : R32s c.gone
  rcame : R32s c.came
theorem Ch.ok.inv {c : Ch} (h : c.ok) : c.inv.ok := ⟨h.2, h.1, h.4, h.3⟩
theorem Ch.ok.small {c : Ch} (h : c.ok) : c.small := ⟨Nat.le_trans h.1 (by omega), Nat.le_trans h.2 (by omega)⟩
structure St.ok (s : St) : Prop where
  len : s.text.length ≤ 100000
  run : R32s s.text
  undo : ∀ c ∈ s.undo, c.ok
  redo : ∀ c ∈ s.redo, c.ok
  ulen : s.undo.length ≤ 100000
  rlen : s.redo.length ≤ 100000
/-- The last n changes of a list, the newest first, may be done one behind the other. -/
def walkN (l : List Ch) : Nat → List Int → Bool
  | 0, _ => true
  | n + 1, t => decide ((l.getD n noCh).good t ∧ ((l.getD n noCh).done t).length ≤ 4096) && walkN l n ((l.getD n noCh).done t)
def rightF (s : St) : Int :=
  if s.text.length > 4096 ∨ s.undo.length + s.redo.length > 16 then 3 else if ¬ scal s.text then 11
  else if (walkN (s.undo.map Ch.inv) s.undo.length s.text && walkN s.redo s.redo.length s.text) = false then 50 else 0
theorem getD_inv (l : List Ch) (n : Nat) : (l.map Ch.inv).getD n noCh = (l.getD n noCh).inv := by
  simp only [List.getD, List.getElem?_map]
  cases l[n]? <;> rfl
theorem R32s.take {l : List Int} (h : R32s l) (n : Nat) : R32s (l.take n) := fun x hx => h x (List.mem_of_mem_take hx)
theorem R32s.drop {l : List Int} (h : R32s l) (n : Nat) : R32s (l.drop n) := fun x hx => h x (List.mem_of_mem_drop hx)
theorem R32s.app {a b : List Int} (h : R32s a) (h' : R32s b) : R32s (a ++ b) := fun x hx => by
  rcases List.mem_append.1 hx with h1 | h1
  · exact h x h1
  · exact h' x h1
theorem R32s.done {c : Ch} {t : List Int} (h : R32s t) (h' : R32s c.came) : R32s (c.done t) := ((h.take _).app h').app (h.drop _)
theorem walk_step (l : List Ch) (m : Nat) (t : List Int) : walkN l (m + 1) t = (decide ((l.getD m noCh).good t ∧ ((l.getD m noCh).done t).length ≤ 4096) && walkN l m (if (l.getD m noCh).good t then (l.getD m noCh).done t else [])) := by
  simp only [walkN]
  by_cases h : (l.getD m noCh).good t
  · rw [if_pos h]
  · rw [decide_eq_false (fun h' => h h'.1)]; simp
end Go.Proofs.YtdpflafjfkooeaaDoorG
namespace Go.Proofs.YtdpflafjfkooeaaDoorG
open Go Go.RowKit Go.Proofs
set_option linter.unusedSimpArgs false
set_option linter.unusedVariables false
/-- What is known of edit.goes. -/
def GoesOk : Prop := ∀ (t : List Int) (l : List Ch) (back : Bool), t.length ≤ 100000 → (∀ c ∈ l, c.ok) → l.length ≤ 100000 →
  CallOk Tryd.prog 56 [sl (rn t), sln 3 (chs l), bo back] (bo (walkN (if back then l.map Ch.inv else l) l.length t)) [] true
structure Opn.ok (o : Opn) : Prop where
  len : o.text.length ≤ 100000
  run : R32s o.text
set_option maxRecDepth 10000 in
set_option maxHeartbeats 4000000 in
theorem right_ok (hg : GoesOk) (s : St) (hs : s.ok) : CallOk Tryd.prog 35 [s.x] (i64 (rightF s)) [] true := by
  have g1 : CallOk Tryd.prog 56 [sl (rn s.text), sln 3 (chs s.undo), bo true] (bo (walkN (s.undo.map Ch.inv) s.undo.length s.text)) [] true := hg s.text s.undo true hs.len hs.undo hs.ulen
  have g2 : CallOk Tryd.prog 56 [sl (rn s.text), sln 3 (chs s.redo), bo false] (bo (walkN s.redo s.redo.length s.text)) [] true := hg s.text s.redo false hs.len hs.redo hs.rlen
  obtain ⟨ht, hr, hu, hd, hul, hdl⟩ := hs
  refine fn_ok' T_ok (orc_ok _) mixed Tryd.func35 rfl (by kernel_rfl) (lv [[1], [1, 3], [2], [1, 24], [2], [29], [2], [2]]) 44 rfl (by simp) rfl (by simp [X.all, PX.all, TV.rawR, SV.isRaw]) ?_
  simp only [argsG, Nat.zero_add, Nat.reduceAdd, St.x]
  repeat' first
    | ((first
        | ((with_reducible refine vR_cons (by decide) ?_); generalize hk : KtR _ _ _ _ _ _ _ _ _ _ = k)
        | ((first
        | with_reducible refine vOps_cons' ?_
        | ((with_reducible apply orc_b); (focus (with_reducible exact scal_ok _ hr (by omega); done)); (all_goals (intro hb; (try simp only [decide_eq_true_eq, decide_eq_false_iff_not, Bool.not_eq_true', Bool.not_eq_false', Bool.and_eq_true, Decidable.not_not] at hb))))
        | ((with_reducible apply orc_b); (focus (with_reducible exact g1; done)); (all_goals (intro hb; (try simp only [decide_eq_true_eq, decide_eq_false_iff_not, Bool.not_eq_true', Bool.not_eq_false', Bool.and_eq_true, Decidable.not_not] at hb))))
        | ((with_reducible apply orc_b); (focus (with_reducible exact g2; done)); (all_goals (intro hb; (try simp only [decide_eq_true_eq, decide_eq_false_iff_not, Bool.not_eq_true', Bool.not_eq_false', Bool.and_eq_true, Decidable.not_not] at hb))))) <;> generalize hk : Kt _ _ _ _ _ _ _ _ _ = k)) <;> (simp only [Tryd.f35, lv, E1, E2, E5, ET, T, orc_mv, noO_mv, mvB, orc_bx, noO_bx, bxB, orc_sx, noO_sx, sxB, fwd, fwds, inv, mOk, Int.toNat_natCast, Nat.div_one, Nat.mul_one, Int.reduceToNat, SB, List.not_mem_nil, ↓reduceIte, ne_eq, reduceCtorEq, Nat.reduceLT, Nat.reduceEqDiff, Nat.reduceAdd, Nat.reduceMul, Nat.reduceLeDiff, Nat.reduceDiv, Nat.reduceMod, Nat.reduceSub, Nat.reduceBEq, rn_len, chs_len, chs_cnt, List.length_map, Ch.x, Ch.inv, Ch.rx, Ch.rr, Opn.x, St.x, cut_rn, take_drop_len, List.length_append, List.length_take, List.length_drop, ← rn_app, Int.sub_zero]; (try simp (disch := omega) only [wrap_in, Int.toNat_natCast, tv_rn, tv_ch0, tv_ch1, tv_ch2]); subst hk))
    | with_reducible first | refine Kt_p ?_ | refine Kt_i (by kernel_rfl) ?_ | refine Kr_f (by kernel_rfl) ?_
    | (with_reducible refine Kr_t ?_; simp only [List.length_append, List.length_cons, List.length_nil, Nat.reduceAdd, Nat.reduceSub, List.drop_succ_cons, List.drop_zero])
    | with_reducible first | refine vR_nil ?_ | refine KtR_i (by kernel_rfl) ?_ | refine KrR_i (by kernel_rfl) ?_ | refine vR_skip (by decide) ?_
    | ((with_reducible refine vB_i ?_ ?_) <;> intro _ <;> (first | (exfalso; omega) | (exact absurd trivial ‹¬True›) | (try dsimp only [])))
    | ((with_reducible refine vOps_nil' ?_); refine Kr_i (by kernel_rfl) ?_; generalize hk : plain _ _ = G; simp only [lv, E3, E2, E5, rawX, deadX, SB, List.not_mem_nil, ↓reduceIte, ne_eq, reduceCtorEq, Nat.reduceLT, Nat.reduceEqDiff, Nat.reduceAdd, Nat.reduceMul, Nat.reduceLeDiff, Nat.reduceDiv, Nat.reduceMod, Nat.reduceSub, Nat.reduceBEq, rn_len, chs_len, chs_cnt, List.length_map, Ch.x, Ch.inv, Ch.rx, Ch.rr, Opn.x, St.x, cut_rn, take_drop_len, List.length_append, List.length_take, List.length_drop, ← rn_app, Int.sub_zero] at hk; subst hk)
    | with_reducible refine vSeq_i ?_
    | with_reducible first | refine vRegion_i (by kernel_rfl) ?_ | refine Kv_i ?_
    | ((with_reducible apply vStrK_i); (focus (rfl; done)))
    | ((with_reducible refine imp_i ?_); intro _)
    | with_reducible first | refine Ks_n ?_ | refine Ks_r ?_ | refine Ks_e ?_ | refine Kl_e ?_ | refine Kx_n ?_ | refine Kl_r ?_ | refine vRet_i ?_ | refine vSkip_i ?_ | refine vExit_i ?_ | refine vBlock_i ?_ | refine Ks_p ?_ | refine Kl_p ?_ | refine blk_p ?_ | exact Kb_p | refine vGoto_i ?_ | refine vLabel_i ?_ | refine Ks_g ?_ | refine Kl_g ?_ | refine blk_g ?_ | refine jmp_g ?_ | refine jmp_n ?_ | refine jmp_r ?_ | refine nog_n ?_ | refine nog_r ?_ | refine blk_n ?_ | refine blk_r ?_ | refine blk_e ?_ | refine blk_o (by decide) ?_ | refine cp_t ?_ | refine cp_f ?_
    | ((with_reducible apply vCond_x); (focus (simp only [lv, E1, E2, E5, ET, T, orc_mv, noO_mv, mvB, orc_bx, noO_bx, bxB, orc_sx, noO_sx, sxB, fwd, fwds, inv, mOk, Int.toNat_natCast, Nat.div_one, Nat.mul_one, Int.reduceToNat, SB, List.not_mem_nil, ↓reduceIte, ne_eq, reduceCtorEq, Nat.reduceLT, Nat.reduceEqDiff, Nat.reduceAdd, Nat.reduceMul, Nat.reduceLeDiff, Nat.reduceDiv, Nat.reduceMod, Nat.reduceSub, Nat.reduceBEq, rn_len, chs_len, chs_cnt, List.length_map, Ch.x, Ch.inv, Ch.rx, Ch.rr, Opn.x, St.x, cut_rn, take_drop_len, List.length_append, List.length_take, List.length_drop, ← rn_app, Int.sub_zero]; with_reducible first | exact Eq.refl (bo true) | exact Eq.refl (bo false))))
    | ((with_reducible refine And.intro ?_ ?_); (focus (try omega)))
  all_goals
    refine Kf_r ?_
    simp only [Tryd.f35, E4, E3, E2, E5, rawX, deadX, ET, T, SB, List.not_mem_nil, ↓reduceIte, ne_eq, reduceCtorEq, Nat.reduceLT, Nat.reduceEqDiff, Nat.reduceAdd, Nat.reduceMul, Nat.reduceLeDiff, Nat.reduceDiv, Nat.reduceMod, Nat.reduceSub, Nat.reduceBEq, rn_len, chs_len, chs_cnt, List.length_map, Ch.x, Ch.inv, Ch.rx, Ch.rr, Opn.x, St.x, cut_rn, take_drop_len, List.length_append, List.length_take, List.length_drop, ← rn_app, Int.sub_zero, X.p.injEq, X.tup.injEq, PX.one.injEq, PX.agg.injEq, TV.v.injEq, TV.sr.injEq, SV.raw.injEq, SV.sl.injEq, Value.bool.injEq, Value.int.injEq, List.cons.injEq, Prod.mk.injEq, true_and, and_true, and_self]
    unfold rightF
    (repeat' split) <;> first | rfl | (exfalso; first | contradiction | omega | (simp_all; done))
end Go.Proofs.YtdpflafjfkooeaaDoorG
namespace Go.Proofs.YtdpflafjfkooeaaDoorG
open Go Go.RowKit Go.Proofs
set_option linter.unusedSimpArgs false
set_option linter.unusedVariables false
/-- What an operation does to the text, or why it does nothing. -/
def effF (s : St) (o : Opn) : Ch × Int :=
  if rightF s ≠ 0 then (noCh, rightF s) else if o.kind = 1 then insF s.text o else if o.kind = 2 then remF s.text o
  else if o.kind = 3 then (if (s.undo.length : Int) > 0 then ((s.undo.getD ((s.undo.length : Int) - 1).toNat noCh).inv, 0) else (noCh, 220))
  else if o.kind = 4 then (if (s.redo.length : Int) > 0 then (s.redo.getD ((s.redo.length : Int) - 1).toNat noCh, 0) else (noCh, 220)) else (noCh, 2)
set_option maxRecDepth 10000 in
set_option maxHeartbeats 4000000 in
theorem effect_ok (hg : GoesOk) (s : St) (o : Opn) (hs : s.ok) (ho : o.ok) : CallOk Tryd.prog 31 [s.x, o.x] ((effF s o).1.rx (effF s o).2) (effF s o).1.rr true := by
  have hr := right_ok hg s hs
  have hui : (s.undo.length : Int) > 0 → (s.undo.getD ((s.undo.length : Int) - 1).toNat noCh).ok := fun h => hs.undo _ (mem_getD (by omega))
  have hri : (s.redo.length : Int) > 0 → (s.redo.getD ((s.redo.length : Int) - 1).toNat noCh).ok := fun h => hs.redo _ (mem_getD (by omega))
  obtain ⟨ht, hrr, hu, hd, hul, hdl⟩ := hs
  obtain ⟨ho1, ho2⟩ := ho
  refine fn_ok' T_ok (orc_ok _) mixed Tryd.func31 rfl (by kernel_rfl) (lv [[2, 3, 4], [2, 3, 4, 6], [2, 3, 4, 6, 12], [4, 5], [2, 3, 4, 16], [2, 3, 4, 16, 17], [4, 5], [2, 3, 4, 16, 25], [4, 5], [2, 4, 16, 33], [2, 4, 7], [2, 4, 7, 39], [4, 5], [4, 5], [2, 4, 48], [2, 4, 8], [2, 4, 8, 54], [4, 5], [4, 5], [4, 5]]) 65 rfl (by simp) rfl (fun _ => ⟨rfl, Ch.rr_raw⟩) ?_
  rcases hI : effF s o with ⟨c, e⟩
  simp only [argsG, Nat.zero_add, Nat.reduceAdd, St.x, Opn.x]
  repeat' first
    | ((first
        | ((with_reducible refine vR_cons (by decide) ?_); generalize hk : KtR _ _ _ _ _ _ _ _ _ _ = k)
        | ((first
        | with_reducible refine vOps_cons' ?_
        | ((with_reducible apply orc_i); (focus (exact hr; done)))
        | ((with_reducible apply orc_i); (focus (exact insert_ok s.text o (by omega) (by omega) ho2; done)))
        | ((with_reducible apply orc_i); (focus (exact remove_ok s.text o (by omega); done)))
        | ((with_reducible apply orc_i); (focus (exact inverse_ok (s.undo.getD ((s.undo.length : Int) - 1).toNat noCh) (hui (by assumption)).small; done)))
        | ((with_reducible apply orc_i); (focus (exact inverse_ok (s.redo.getD ((s.redo.length : Int) - 1).toNat noCh) (hri (by assumption)).small; done)))
        | ((with_reducible apply orc_i); (focus (exact inverse_ok (s.redo.getD ((s.redo.length : Int) - 1).toNat noCh).inv (hri (by assumption)).inv.small; done)))) <;> generalize hk : Kt _ _ _ _ _ _ _ _ _ = k)) <;> (simp only [Tryd.f31, lv, E1, E2, E5, ET, T, orc_mv, noO_mv, mvB, orc_bx, noO_bx, bxB, orc_sx, noO_sx, sxB, fwd, fwds, inv, mOk, Int.toNat_natCast, Nat.div_one, Nat.mul_one, Int.reduceToNat, SB, List.not_mem_nil, ↓reduceIte, ne_eq, reduceCtorEq, Nat.reduceLT, Nat.reduceEqDiff, Nat.reduceAdd, Nat.reduceMul, Nat.reduceLeDiff, Nat.reduceDiv, Nat.reduceMod, Nat.reduceSub, Nat.reduceBEq, rn_len, chs_len, chs_cnt, List.length_map, Ch.x, Ch.inv, Ch.rx, Ch.rr, Opn.x, St.x, cut_rn, take_drop_len, List.length_append, List.length_take, List.length_drop, ← rn_app, Int.sub_zero]; (try simp (disch := omega) only [wrap_in, Int.toNat_natCast, tv_rn, tv_ch0, tv_ch1, tv_ch2]); subst hk))
    | with_reducible first | refine Kt_p ?_ | refine Kt_i (by kernel_rfl) ?_ | refine Kr_f (by kernel_rfl) ?_
    | (with_reducible refine Kr_t ?_; simp only [List.length_append, List.length_cons, List.length_nil, Nat.reduceAdd, Nat.reduceSub, List.drop_succ_cons, List.drop_zero])
    | with_reducible first | refine vR_nil ?_ | refine KtR_i (by kernel_rfl) ?_ | refine KrR_i (by kernel_rfl) ?_ | refine vR_skip (by decide) ?_
    | ((with_reducible refine vB_i ?_ ?_) <;> intro _ <;> (first | (exfalso; omega) | (exact absurd trivial ‹¬True›) | (try dsimp only [])))
    | ((with_reducible refine vOps_nil' ?_); refine Kr_i (by kernel_rfl) ?_; generalize hk : plain _ _ = G; simp only [lv, E3, E2, E5, rawX, deadX, SB, List.not_mem_nil, ↓reduceIte, ne_eq, reduceCtorEq, Nat.reduceLT, Nat.reduceEqDiff, Nat.reduceAdd, Nat.reduceMul, Nat.reduceLeDiff, Nat.reduceDiv, Nat.reduceMod, Nat.reduceSub, Nat.reduceBEq, rn_len, chs_len, chs_cnt, List.length_map, Ch.x, Ch.inv, Ch.rx, Ch.rr, Opn.x, St.x, cut_rn, take_drop_len, List.length_append, List.length_take, List.length_drop, ← rn_app, Int.sub_zero] at hk; subst hk)
    | with_reducible refine vSeq_i ?_
    | with_reducible first | refine vRegion_i (by kernel_rfl) ?_ | refine Kv_i ?_
    | ((with_reducible apply vStrK_i); (focus (rfl; done)))
    | ((with_reducible refine imp_i ?_); intro _)
    | with_reducible first | refine Ks_n ?_ | refine Ks_r ?_ | refine Ks_e ?_ | refine Kl_e ?_ | refine Kx_n ?_ | refine Kl_r ?_ | refine vRet_i ?_ | refine vSkip_i ?_ | refine vExit_i ?_ | refine vBlock_i ?_ | refine Ks_p ?_ | refine Kl_p ?_ | refine blk_p ?_ | exact Kb_p | refine vGoto_i ?_ | refine vLabel_i ?_ | refine Ks_g ?_ | refine Kl_g ?_ | refine blk_g ?_ | refine jmp_g ?_ | refine jmp_n ?_ | refine jmp_r ?_ | refine nog_n ?_ | refine nog_r ?_ | refine blk_n ?_ | refine blk_r ?_ | refine blk_e ?_ | refine blk_o (by decide) ?_ | refine cp_t ?_ | refine cp_f ?_
    | ((with_reducible apply vCond_x); (focus (simp only [lv, E1, E2, E5, ET, T, orc_mv, noO_mv, mvB, orc_bx, noO_bx, bxB, orc_sx, noO_sx, sxB, fwd, fwds, inv, mOk, Int.toNat_natCast, Nat.div_one, Nat.mul_one, Int.reduceToNat, SB, List.not_mem_nil, ↓reduceIte, ne_eq, reduceCtorEq, Nat.reduceLT, Nat.reduceEqDiff, Nat.reduceAdd, Nat.reduceMul, Nat.reduceLeDiff, Nat.reduceDiv, Nat.reduceMod, Nat.reduceSub, Nat.reduceBEq, rn_len, chs_len, chs_cnt, List.length_map, Ch.x, Ch.inv, Ch.rx, Ch.rr, Opn.x, St.x, cut_rn, take_drop_len, List.length_append, List.length_take, List.length_drop, ← rn_app, Int.sub_zero]; with_reducible first | exact Eq.refl (bo true) | exact Eq.refl (bo false))))
    | ((with_reducible refine And.intro ?_ ?_); (focus (try omega)))
  all_goals
    unfold effF at hI
    (repeat' split at hI)
    all_goals first
      | (exfalso; first | contradiction | omega)
      | (simp only [Prod.mk.injEq] at hI
         obtain ⟨rfl, rfl⟩ := hI
         refine Kf_r ?_
         simp only [Tryd.f31, E4, E3, E2, E5, rawX, deadX, ET, T, SB, List.not_mem_nil, ↓reduceIte, ne_eq, reduceCtorEq, Nat.reduceLT, Nat.reduceEqDiff, Nat.reduceAdd, Nat.reduceMul, Nat.reduceLeDiff, Nat.reduceDiv, Nat.reduceMod, Nat.reduceSub, Nat.reduceBEq, rn_len, chs_len, chs_cnt, List.length_map, Ch.x, Ch.inv, Ch.rx, Ch.rr, Opn.x, St.x, cut_rn, take_drop_len, List.length_append, List.length_take, List.length_drop, ← rn_app, Int.sub_zero, Ch.rx, Ch.rr, Ch.inv, noCh, rn_nil]
         done)
      | (refine Kf_r ?_
         simp only [Tryd.f31, E4, E3, E2, E5, rawX, deadX, ET, T, SB, List.not_mem_nil, ↓reduceIte, ne_eq, reduceCtorEq, Nat.reduceLT, Nat.reduceEqDiff, Nat.reduceAdd, Nat.reduceMul, Nat.reduceLeDiff, Nat.reduceDiv, Nat.reduceMod, Nat.reduceSub, Nat.reduceBEq, rn_len, chs_len, chs_cnt, List.length_map, Ch.x, Ch.inv, Ch.rx, Ch.rr, Opn.x, St.x, cut_rn, take_drop_len, List.length_append, List.length_take, List.length_drop, ← rn_app, Int.sub_zero, Ch.rx, Ch.rr, Ch.inv, hI]
         done)
      | (refine Kf_r ?_
         simp only [Tryd.f31, E4, E3, E2, E5, rawX, deadX, ET, T, SB, List.not_mem_nil, ↓reduceIte, ne_eq, reduceCtorEq, Nat.reduceLT, Nat.reduceEqDiff, Nat.reduceAdd, Nat.reduceMul, Nat.reduceLeDiff, Nat.reduceDiv, Nat.reduceMod, Nat.reduceSub, Nat.reduceBEq, rn_len, chs_len, chs_cnt, List.length_map, Ch.x, Ch.inv, Ch.rx, Ch.rr, Opn.x, St.x, cut_rn, take_drop_len, List.length_append, List.length_take, List.length_drop, ← rn_app, Int.sub_zero, Ch.rx, Ch.rr, Ch.inv, hI]
         trace_state)
end Go.Proofs.YtdpflafjfkooeaaDoorG
namespace Go.Proofs.YtdpflafjfkooeaaDoorG
open Go Go.RowKit Go.Proofs
set_option linter.unusedSimpArgs false
set_option linter.unusedVariables false
theorem right_zero {s : St} (h : rightF s = 0) : s.text.length ≤ 4096 ∧ s.undo.length + s.redo.length ≤ 16 ∧ scal s.text ∧ walkN (s.undo.map Ch.inv) s.undo.length s.text = true ∧ walkN s.redo s.redo.length s.text = true := by
  unfold rightF at h
  (repeat' split at h) <;> first | (exfalso; omega) | skip
  rename_i h1 h2 h3
  simp only [Bool.not_eq_false, Bool.and_eq_true] at h3
  exact ⟨by omega, by omega, Classical.not_not.1 h2, h3.1, h3.2⟩
theorem walk_head {l : List Ch} {t : List Int} (h : walkN l l.length t = true) (hl : 0 < l.length) : (l.getD (l.length - 1) noCh).good t ∧ ((l.getD (l.length - 1) noCh).done t).length ≤ 4096 ∧ walkN l (l.length - 1) ((l.getD (l.length - 1) noCh).done t) = true := by
  obtain ⟨m, hm⟩ : ∃ m, l.length = m + 1 := ⟨l.length - 1, by omega⟩
  rw [hm] at h ⊢
  simp only [walkN, Bool.and_eq_true, decide_eq_true_eq] at h
  exact ⟨h.1.1, h.1.2, h.2⟩
theorem eff_zero {s : St} {o : Opn} {c : Ch} (h : effF s o = (c, 0)) : rightF s = 0 := by
  unfold effF at h
  split at h
  · rename_i h1; simp only [Prod.mk.injEq] at h; exact absurd h.2 h1
  · rename_i h1; exact Classical.not_not.1 h1
theorem eff_good {s : St} {o : Opn} {c : Ch} (hs : s.ok) (ho : o.ok) (h : effF s o = (c, 0)) : c.good s.text ∧ c.ok ∧ (c.done s.text).length ≤ 4096 := by
  have hr := right_zero (eff_zero h)
  obtain ⟨r1, r2, r3, r4, r5⟩ := hr
  unfold effF at h
  rw [if_neg (by rw [eff_zero (c := c) (by unfold effF; exact h)]; exact fun h => h rfl)] at h
  have hsc : scal [] := fun i hi => by simp at hi
  split at h
  · unfold insF at h
    (repeat' split at h) <;> simp only [Prod.mk.injEq] at h <;> first | (exfalso; omega) | skip
    rename_i h1 h2 h3 h4
    obtain ⟨rfl, _⟩ := h
    have hf : Ch.fits ⟨o.at_, [], o.text⟩ s.text := ⟨by show 0 ≤ o.at_; omega, by show o.at_ ≤ s.text.length; omega, by simp; omega, by simp⟩
    refine ⟨⟨hsc, Classical.not_not.1 h2, hf⟩, ⟨by simp, ho.len, by intro x hx; simp at hx, ho.run⟩, ?_⟩
    rw [Ch.done_len hf]; simp; omega
  · split at h
    · unfold remF at h
      (repeat' split at h) <;> simp only [Prod.mk.injEq] at h <;> first | (exfalso; omega) | skip
      rename_i h1 h2
      obtain ⟨rfl, _⟩ := h
      have hl : ((s.text.drop o.at_.toNat).take (o.to_ - o.at_).toNat).length = (o.to_ - o.at_).toNat := by simp; omega
      have hf : Ch.fits ⟨o.at_, (s.text.drop o.at_.toNat).take (o.to_ - o.at_).toNat, []⟩ s.text := ⟨by show 0 ≤ o.at_; omega, by show o.at_ ≤ s.text.length; omega, by simp only [hl]; omega, by simp only [hl]⟩
      refine ⟨⟨fun i hi => ?_, hsc, hf⟩, ⟨by simp only [hl]; omega, by simp, (hs.run.drop _).take _, by intro x hx; simp at hx⟩, ?_⟩
      · simp only [hl] at hi
        have := r3 (o.at_.toNat + i) (by omega)
        simpa [List.getD, List.getElem?_take, List.getElem?_drop, hi] using this
      · rw [Ch.done_len hf]; simp only [List.length_nil]; omega
    · split at h
      · split at h
        · rename_i hl
          simp only [Prod.mk.injEq] at h
          obtain ⟨rfl, _⟩ := h
          have := walk_head (l := s.undo.map Ch.inv) (by simpa using r4) (by simp; omega)
          simp only [List.length_map, getD_inv] at this
          rw [show ((s.undo.length : Int) - 1).toNat = s.undo.length - 1 by omega]
          exact ⟨this.1, (hs.undo _ (mem_getD (by omega))).inv, this.2.1⟩
        · simp only [Prod.mk.injEq] at h; exfalso; omega
      · split at h
        · split at h
          · rename_i hl
            simp only [Prod.mk.injEq] at h
            obtain ⟨rfl, _⟩ := h
            have := walk_head r5 (by omega)
            rw [show ((s.redo.length : Int) - 1).toNat = s.redo.length - 1 by omega]
            exact ⟨this.1, hs.redo _ (mem_getD (by omega)), this.2.1⟩
          · simp only [Prod.mk.injEq] at h; exfalso; omega
        · simp only [Prod.mk.injEq] at h; exfalso; omega
/-- What an operation makes of a state. -/
def appF (s : St) (o : Opn) : St × Int :=
  if (effF s o).2 ≠ 0 then (⟨[], [], []⟩, (effF s o).2)
  else if o.kind = 3 then (⟨(effF s o).1.done s.text, s.undo.take (s.undo.length - 1), s.redo ++ [(effF s o).1.inv]⟩, 0)
  else if o.kind = 4 then (⟨(effF s o).1.done s.text, s.undo ++ [(effF s o).1], s.redo.take (s.redo.length - 1)⟩, 0)
  else (⟨(effF s o).1.done s.text, if s.undo.length + 1 > 16 then (s.undo ++ [(effF s o).1]).drop 1 else s.undo ++ [(effF s o).1], []⟩, 0)
theorem eff_undo {s : St} {o : Opn} {c : Ch} (h : effF s o = (c, 0)) (hk : o.kind = 3) : 0 < s.undo.length := by
  have h0 := eff_zero h
  unfold effF at h
  rw [if_neg (by rw [h0]; exact fun h => h rfl), if_neg (by omega), if_neg (by omega), if_pos hk] at h
  split at h
  · omega
  · simp only [Prod.mk.injEq] at h; exfalso; omega
theorem eff_redo {s : St} {o : Opn} {c : Ch} (h : effF s o = (c, 0)) (hk : o.kind = 4) : 0 < s.redo.length := by
  have h0 := eff_zero h
  unfold effF at h
  rw [if_neg (by rw [h0]; exact fun h => h rfl), if_neg (by omega), if_neg (by omega), if_neg (by omega), if_pos hk] at h
  split at h
  · omega
  · simp only [Prod.mk.injEq] at h; exfalso; omega
theorem chs_snoc (l : List Ch) (c : Ch) : chs (l ++ [c]) = chs l ++ [.raw (.int .i64 c.at_), .sl 1 (rn c.gone), .sl 1 (rn c.came)] := by rw [chs_app]; rfl
theorem cnt_snoc (l : List Ch) (a b d : SV) : cnt 3 (chs l ++ [a, b, d]) = l.length + 1 := by
  simp only [cnt, List.length_append, chs_len, List.length_cons, List.length_nil]; omega
theorem cut_snoc (l : List Ch) (a b d : SV) : cutSV 3 (chs l ++ [a, b, d]) 1 ((l.length + 1 : Nat) : Int) = (chs l ++ [a, b, d]).drop 3 := by
  simp only [cutSV]
  rw [show (1 : Int).toNat * 3 = 3 from rfl]
  refine List.take_of_length_le ?_
  simp only [List.length_drop, List.length_append, chs_len, List.length_cons, List.length_nil]; omega
theorem chs_nil : chs [] = [] := rfl
theorem chs_take (l : List Ch) (k : Nat) : chs (l.take k) = (chs l).take (k * 3) := by
  induction l generalizing k with
  | nil => simp [chs]
  | cons c l ih => cases k with
    | zero => simp [chs]
    | succ k => rw [List.take_succ_cons, chs_cons, chs_cons, ih, Nat.succ_mul]; rfl
theorem chs_drop (l : List Ch) (k : Nat) : chs (l.drop k) = (chs l).drop (k * 3) := by
  induction l generalizing k with
  | nil => simp [chs]
  | cons c l ih => cases k with
    | zero => simp [chs]
    | succ k => rw [List.drop_succ_cons, chs_cons, ih, Nat.succ_mul]; rfl
end Go.Proofs.YtdpflafjfkooeaaDoorG
/- U24: what came in: changes, states, operations; bounds (A29's and H22's, without layer 22's laws). -/
namespace Go.Proofs.YtdpflafjfkooeaaDoorG
open Go Go.RowKit Go.Proofs Go.Proofs.YtdpflafjfkooeaaDoor
set_option linter.unusedVariables false
set_option linter.unusedSimpArgs false
structure Ch.upto (n : Nat) (c : Ch) : Prop where
  gone : c.gone.length ≤ n
  came : c.came.length ≤ n
  rgone : R32s c.gone
  rcame : R32s c.came
structure Opn.upto (n : Nat) (o : Opn) : Prop where
  len : o.text.length ≤ n
  run : R32s o.text
structure St.upto (n : Nat) (s : St) : Prop where
  len : s.text.length ≤ n
  run : R32s s.text
  undo : ∀ c ∈ s.undo, c.upto n
  redo : ∀ c ∈ s.redo, c.upto n
  ulen : s.undo.length ≤ n
  rlen : s.redo.length ≤ n
def Opn.cells (o : Opn) : List SV := [.raw (.int .i64 o.kind), .raw (.int .i64 o.at_), .raw (.int .i64 o.to_), .sl 1 (rn o.text)]
def Ch.cells (c : Ch) : List SV := [.raw (.int .i64 c.at_), .sl 1 (rn c.gone), .sl 1 (rn c.came)]
def St.cells (s : St) : List SV := [.sl 1 (rn s.text), .sl 3 (chs s.undo), .sl 3 (chs s.redo)]
theorem r32 {m : Int} (h : IntKind.i32.min ≤ m ∧ m ≤ IntKind.i32.max) : R32 m := by
  have h1 : IntKind.i32.min = -2147483648 := by decide
  have h2 : IntKind.i32.max = 2147483647 := by decide
  rw [h1, h2] at h; exact h
theorem typ_runes {n : Nat} {xs : List SV} (h : Typ T n 24 xs) : ∃ l : List Int, xs = [.sl 1 (rn l)] ∧ R32s l ∧ l.length ≤ n := by
  obtain ⟨l, rfl, h1, h2⟩ := h.ints (by rfl) (by rfl)
  exact ⟨l, rfl, fun m hm => r32 (h1 m hm), h2⟩
theorem typ_op {n : Nat} {xs : List SV} (h : Typ T n 26 xs) : ∃ o : Opn, xs = o.cells ∧ o.upto n := by
  obtain ⟨xss, rfl, ha⟩ := h.struct' (by rfl)
  obtain ⟨x0, r0, rfl, h0, ha⟩ := all2_c1 ha
  obtain ⟨x1, r1, rfl, h1, ha⟩ := all2_c1 ha
  obtain ⟨x2, r2, rfl, h2, ha⟩ := all2_c1 ha
  obtain ⟨x3, r3, rfl, h3, ha⟩ := all2_c1 ha
  have := all2_n ha
  subst this
  obtain ⟨m0, rfl, _⟩ := h0.int' (by rfl)
  obtain ⟨m1, rfl, _⟩ := h1.int' (by rfl)
  obtain ⟨m2, rfl, _⟩ := h2.int' (by rfl)
  obtain ⟨l, rfl, q1, q2⟩ := typ_runes h3
  exact ⟨⟨m0, m1, m2, l⟩, rfl, q2, q1⟩
end Go.Proofs.YtdpflafjfkooeaaDoorG
/- Y1: errors.As at a nil error, and at one of the target's own type (after the kit's worked example Toyas, turned to this seat); cost.why. -/
namespace Go.Proofs.YtdpflafjfkooeaaDoorG
open Go Go.RowKit Go.Proofs Go.Extern.Stop Go.Stop Go.Extern
set_option linter.unusedVariables false
set_option linter.unusedSimpArgs false
theorem tas_valueOf27 (t : Addr) (w : World) : (ReflectliteValue.unpack (.iface 111 (.pointer (some t)))).run Tryd.prog w
    = .ok (.agg #[.pointer (some ⟨1, 111, none⟩), .pointer (some ⟨w.heap.size, 0, none⟩), .int .u64 150]) (w.alloc (.cells #[.pointer (some t)] 111)) := by kernel_rfl
theorem tas_type27 (a : Addr) (w : World) : (ReflectliteValue.methodAny (ReflectliteValue.valueError "reflectlite.Value.Type" 0) (fun t _ _ _ => ReflectliteType.toType t) #[.agg #[.pointer (some ⟨1, 111, none⟩), .pointer (some a), .int .u64 150]]).run Tryd.prog w
    = .ok (.iface 144 (.agg #[.pointer (some ⟨1, 111, none⟩)])) w := by kernel_rfl
theorem tas_methodKind (h : Value) (w : World) : (Go.method 288 144 (.agg #[h]) "Kind").run Tryd.prog w = .ok (101, h) w := by kernel_rfl
theorem tas_kind27 (w : World) : ((ReflectliteType.abiMethod fun t => (fun a : Nat => Value.int IntKind.u8 (a : Int)) <$> Rtype.kind t) #[.pointer (some ⟨1, 111, none⟩)]).run Tryd.prog w = .ok (.int .u8 22) w := by kernel_rfl
theorem tas_kind25 (w : World) : ((ReflectliteType.abiMethod fun t => (fun a : Nat => Value.int IntKind.u8 (a : Int)) <$> Rtype.kind t) #[.pointer (some ⟨1, 107, none⟩)]).run Tryd.prog w = .ok (.int .u8 22) w := by kernel_rfl
/-! ### THE ENTRIES THAT READ OR WRITE MEMORY: laws with a premise on the cell (after Derived/Lib/ReflectliteSlice.lean's manner: each unfolding a lemma of its own, by rfl) -/
theorem rlm (z : Sem Value) (f : TypeId → Addr → Nat → Nat → Sem Value) (v : Value) :
    ReflectliteValue.method z f #[v] = (do match ← ReflectliteValue.parts v with | none => z | some (t, a, fl) => f t a fl (fl % 32)) := rfl
theorem tas_parts27 (a : Addr) (w : World) : (ReflectliteValue.parts (.agg #[.pointer (some ⟨1, 111, none⟩), .pointer (some a), .int .u64 150])).run Tryd.prog w = .ok (some (111, a, 150)) w := by kernel_rfl
/-- (Value).IsNil at the Value of a **p.E that is not nil. -/
theorem tas_isNil27 (a p : Addr) (W : World) (ha : W.cell? a = some (.pointer (some p))) :
    (ReflectliteValue.method (ReflectliteValue.valueError "reflectlite.Value.IsNil" 0) ReflectliteValue.isNil #[.agg #[.pointer (some ⟨1, 111, none⟩), .pointer (some a), .int .u64 150]]).run Tryd.prog W = .ok (.bool false) W := by
  rw [rlm]
  simp only [Sem.run_bind, tas_parts27, Result.andThen]
  simp [ReflectliteValue.isNil, loadVar, isAgg, underlying, Tryd.underlying111, ha, Result.andThen]
theorem tas_methodElem (h : Value) (w : World) : (Go.method 288 144 (.agg #[h]) "Elem").run Tryd.prog w = .ok (112, .agg #[h]) w := by kernel_rfl
theorem tas_methodImplements (h : Value) (w : World) : (Go.method 288 144 (.agg #[h]) "Implements").run Tryd.prog w = .ok (113, .agg #[h]) w := by kernel_rfl
theorem tas_methodAssignableTo (h : Value) (w : World) : (Go.method 288 144 (.agg #[h]) "AssignableTo").run Tryd.prog w = .ok (110, .agg #[h]) w := by kernel_rfl
theorem tas_elem27 (w : World) : (ReflectliteType.method ReflectliteType.elem #[.agg #[.pointer (some ⟨1, 111, none⟩)]]).run Tryd.prog w = .ok (.iface 144 (.agg #[.pointer (some ⟨1, 107, none⟩)])) w := by kernel_rfl
theorem tas_implements25 (w : World) : (ReflectliteType.relation "Implements" ReflectliteType.implements_ #[.agg #[.pointer (some ⟨1, 107, none⟩)], .iface 144 (.agg #[.pointer (some ⟨1, 86, none⟩)])]).run Tryd.prog w = .ok (.bool true) w := by kernel_rfl
theorem tas_typeOf25 (v : Value) (w : World) : (ReflectliteType.typeOf #[.iface 107 v]).run Tryd.prog w = .ok (.iface 144 (.agg #[.pointer (some ⟨1, 107, none⟩)])) w := by kernel_rfl
theorem tas_assignable25 (w : World) : (ReflectliteType.relation "AssignableTo" ReflectliteType.assignableTo #[.agg #[.pointer (some ⟨1, 107, none⟩)], .iface 144 (.agg #[.pointer (some ⟨1, 107, none⟩)])]).run Tryd.prog w = .ok (.bool true) w := by kernel_rfl
theorem tas_valueOf25 (e : Addr) (w : World) : (ReflectliteValue.unpack (.iface 107 (.pointer (some e)))).run Tryd.prog w
    = .ok (.agg #[.pointer (some ⟨1, 107, none⟩), .pointer (some ⟨w.heap.size, 0, none⟩), .int .u64 150]) (w.alloc (.cells #[.pointer (some e)] 107)) := by kernel_rfl
theorem tas_elemOf27 (w : World) : (Rtype.elem? 111).run Tryd.prog w = .ok (some 107) w := by kernel_rfl
theorem tas_mk25 (p : Addr) (w : World) : (ReflectliteValue.mk 107 p ReflectliteValue.flagAddr).run Tryd.prog w = .ok (.agg #[.pointer (some ⟨1, 107, none⟩), .pointer (some p), .int .u64 406]) w := by kernel_rfl
/-- (Value).Elem at the Value of a **p.E that is not nil: the Value of the *p.E variable that it points to, addressable. -/
theorem tas_elemV27 (a p : Addr) (W : World) (ha : W.cell? a = some (.pointer (some p))) :
    (ReflectliteValue.method (ReflectliteValue.valueError "reflectlite.Value.Elem" 0) ReflectliteValue.elem #[.agg #[.pointer (some ⟨1, 111, none⟩), .pointer (some a), .int .u64 150]]).run Tryd.prog W
      = .ok (.agg #[.pointer (some ⟨1, 107, none⟩), .pointer (some p), .int .u64 406]) W := by
  rw [rlm]
  simp only [Sem.run_bind, tas_parts27, Result.andThen]
  simp [ReflectliteValue.elem, loadVar, isAgg, underlying, Tryd.underlying111, ha, Result.andThen, tas_elemOf27, tas_mk25]
theorem rls (v x : Value) : ReflectliteValue.set #[v, x] = (do
    let (some (dst, a, fl), some (src, b, _)) := (← ReflectliteValue.parts v, ← ReflectliteValue.parts x)
      | unsupported (.noEntry "extern/(internal/reflectlite.Value).Set.zeroValue")
    if fl / ReflectliteValue.flagAddr % 2 == 0 then unsupported (.noEntry "extern/(internal/reflectlite.Value).Set.unaddressable")
    let val ← loadVar src b
    if ← Rtype.directlyAssignable dst src then storeVar dst a val
    else if ← Rtype.implements dst src then
      if (← Rtype.kind src) == 20 then
        match val with
        | .nilIface => unsupported (.noEntry "extern/reflectlite: a nil value of one interface type handed on as a value of another")
        | _ => storeVar dst a val
      else storeVar dst a (.iface src val)
    else panicString ("reflectlite.Set: value of type " ++ (← Rtype.spelt src) ++ " is not assignable to type " ++ (← Rtype.spelt dst))
    pure (.tuple #[])) := rfl
theorem tas_parts25a (a : Addr) (w : World) : (ReflectliteValue.parts (.agg #[.pointer (some ⟨1, 107, none⟩), .pointer (some a), .int .u64 406])).run Tryd.prog w = .ok (some (107, a, 406)) w := by kernel_rfl
theorem tas_parts25 (a : Addr) (w : World) : (ReflectliteValue.parts (.agg #[.pointer (some ⟨1, 107, none⟩), .pointer (some a), .int .u64 150])).run Tryd.prog w = .ok (some (107, a, 150)) w := by kernel_rfl
theorem tas_direct25 (w : World) : (Rtype.directlyAssignable 107 107).run Tryd.prog w = .ok true w := by kernel_rfl
/-- (Value).Set: the *p.E variable at 'ta' gets what the Value's own variable 'b' holds. -/
theorem tas_set25 (ta b e : Addr) (old : Value) (W : World) (hb : W.cell? b = some (.pointer (some e))) (ht : W.cell? ta = some old) (hf : W.frozen? ta = false) :
    (ReflectliteValue.set #[.agg #[.pointer (some ⟨1, 107, none⟩), .pointer (some ta), .int .u64 406], .agg #[.pointer (some ⟨1, 107, none⟩), .pointer (some b), .int .u64 150]]).run Tryd.prog W
      = .ok (.tuple #[]) (W.setCell ta (.pointer (some e))) := by
  rw [rls]
  simp only [Sem.run_bind, tas_parts25a, tas_parts25, Result.andThen]
  simp [ReflectliteValue.flagAddr, loadVar, isAgg, underlying, Tryd.underlying107, hb, Result.andThen, tas_direct25, storeVar, Value.cells, storeCells, Addr.add]
  rw [run_store Tryd.prog W ta _ _ (by rfl)]
  simp [ht, hf]
set_option maxHeartbeats 4000000 in
theorem as_hit (e t : Addr) (old : Value) (w : World) (hg : w.cell? ⟨0, 0, none⟩ = some (.iface 144 (.agg #[.pointer (some ⟨1, 86, none⟩)]))) (ht0 : w.cell? t = some old) (hf0 : w.frozen? t = false) :
    Calls Tryd.prog 59 #[.iface 107 (.pointer (some e)), .iface 111 (.pointer (some t))] w fun ev w' => ev = .returned (.bool true) ∧ w' = ((((w.alloc (.cells #[.pointer (some t)] 111)).alloc (.cells #[.pointer (some ⟨1, 111, none⟩), .pointer (some ⟨w.heap.size, 0, none⟩), .int .u64 150] 129)).alloc (.cells #[.pointer (some ⟨1, 111, none⟩), .pointer (some ⟨w.heap.size, 0, none⟩), .int .u64 150] 129)).alloc (.cells #[.pointer (some e)] 107)).setCell t (.pointer (some e)) := by
  have h6 := @run_callFunc_extern Tryd.prog 73 _ (fun args => ReflectliteValue.unpack (args.getD 0 (.tuple #[]))) Tryd.func73 (by kernel_rfl) (by kernel_rfl) (by kernel_rfl) (by kernel_rfl)
  have h7 := @run_callFunc_extern Tryd.prog 74 _ (ReflectliteValue.methodAny (ReflectliteValue.valueError "reflectlite.Value.Type" 0) (fun t _ _ _ => ReflectliteType.toType t)) Tryd.func74 (by kernel_rfl) (by kernel_rfl) (by kernel_rfl) (by kernel_rfl)
  have h8 := @run_callFunc_extern Tryd.prog 75 _ (ReflectliteValue.method (ReflectliteValue.valueError "reflectlite.Value.IsNil" 0) ReflectliteValue.isNil) Tryd.func75 (by kernel_rfl) (by kernel_rfl) (by kernel_rfl) (by kernel_rfl)
  have h27 := @run_callFunc_extern Tryd.prog 101 _ (ReflectliteType.abiMethod fun t => do pure (.int .u8 (← Rtype.kind t))) Tryd.func101 (by kernel_rfl) (by kernel_rfl) (by kernel_rfl) (by kernel_rfl)
  have h37 := @run_callFunc_extern Tryd.prog 112 _ (ReflectliteType.method ReflectliteType.elem) Tryd.func112 (by kernel_rfl) (by kernel_rfl) (by kernel_rfl) (by kernel_rfl)
  have h38 := @run_callFunc_extern Tryd.prog 113 _ (ReflectliteType.relation "Implements" ReflectliteType.implements_) Tryd.func113 (by kernel_rfl) (by kernel_rfl) (by kernel_rfl) (by kernel_rfl)
  have h10 := @run_callFunc_extern Tryd.prog 83 _ ReflectliteType.typeOf Tryd.func83 (by kernel_rfl) (by kernel_rfl) (by kernel_rfl) (by kernel_rfl)
  have h35 := @run_callFunc_extern Tryd.prog 110 _ (ReflectliteType.relation "AssignableTo" ReflectliteType.assignableTo) Tryd.func110 (by kernel_rfl) (by kernel_rfl) (by kernel_rfl) (by kernel_rfl)
  have h11 := @run_callFunc_extern Tryd.prog 84 _ (ReflectliteValue.method (ReflectliteValue.valueError "reflectlite.Value.Elem" 0) ReflectliteValue.elem) Tryd.func84 (by kernel_rfl) (by kernel_rfl) (by kernel_rfl) (by kernel_rfl)
  have h12 := @run_callFunc_extern Tryd.prog 85 _ ReflectliteValue.set Tryd.func85 (by kernel_rfl) (by kernel_rfl) (by kernel_rfl) (by kernel_rfl)
  have tO := tas_typeOf25
  have mA := tas_methodAssignableTo
  have a25 := tas_assignable25
  have v25 := tas_valueOf25
  have f6 := tas_valueOf27
  have f7 := tas_type27
  have mK := tas_methodKind
  have mE := tas_methodElem
  have mI := tas_methodImplements
  have k27 := tas_kind27
  have k25 := tas_kind25
  have e27 := tas_elem27
  have i25 := tas_implements25
  have n8 := tas_isNil27 ⟨w.heap.size, 0, none⟩ t ((w.alloc (.cells #[.pointer (some t)] 111)).alloc (.cells #[.pointer (some ⟨1, 111, none⟩), .pointer (some ⟨w.heap.size, 0, none⟩), .int .u64 150] 129)) (by simp)
  have hlt : 0 < w.heap.size := by
    rcases Nat.eq_zero_or_pos w.heap.size with h0 | h
    · simp [World.cell?, h0] at hg
    · exact h
  have hg2 : ((w.alloc (.cells #[.pointer (some t)] 111)).alloc (.cells #[.pointer (some ⟨1, 111, none⟩), .pointer (some ⟨w.heap.size, 0, none⟩), .int .u64 150] 129)).cell? ⟨0, 0, none⟩ = some (.iface 144 (.agg #[.pointer (some ⟨1, 86, none⟩)])) := by
    rw [World.cell?_alloc_lt _ _ ⟨0, 0, none⟩ (by simp), World.cell?_alloc_lt _ _ ⟨0, 0, none⟩ hlt]; exact hg
  have htl : t.block < w.heap.size := by
    rcases Nat.lt_or_ge t.block w.heap.size with h | h
    · exact h
    · simp [World.cell?, Array.getElem?_eq_none h] at ht0
  have el := tas_elemV27 ⟨w.heap.size, 0, none⟩ t (((w.alloc (.cells #[.pointer (some t)] 111)).alloc (.cells #[.pointer (some ⟨1, 111, none⟩), .pointer (some ⟨w.heap.size, 0, none⟩), .int .u64 150] 129)).alloc (.cells #[.pointer (some ⟨1, 111, none⟩), .pointer (some ⟨w.heap.size, 0, none⟩), .int .u64 150] 129)) (by rw [World.cell?_alloc_lt _ _ ⟨w.heap.size, 0, none⟩ (by simp; omega)]; simp)
  have st := tas_set25 t ⟨w.heap.size + 1 + 1 + 1, 0, none⟩ e old ((((w.alloc (.cells #[.pointer (some t)] 111)).alloc (.cells #[.pointer (some ⟨1, 111, none⟩), .pointer (some ⟨w.heap.size, 0, none⟩), .int .u64 150] 129)).alloc (.cells #[.pointer (some ⟨1, 111, none⟩), .pointer (some ⟨w.heap.size, 0, none⟩), .int .u64 150] 129)).alloc (.cells #[.pointer (some e)] 107))
    (by rw [World.cell?_alloc_at _ _ _ _ (by simp)]; rfl)
    (by rw [World.cell?_alloc_lt _ _ t (by simp; omega), World.cell?_alloc_lt _ _ t (by simp; omega), World.cell?_alloc_lt _ _ t (by simp; omega), World.cell?_alloc_lt _ _ t htl]; exact ht0)
    (by rw [World.frozen?_alloc_old _ _ t (by simp; omega), World.frozen?_alloc_old _ _ t (by simp; omega), World.frozen?_alloc_old _ _ t (by simp; omega), World.frozen?_alloc_old _ _ t (Nat.ne_of_lt htl)]; exact hf0)
  go_enter Tryd.func59, Tryd.ntmps59
  go_wp2
  refine wp_loop_rounds 1 ?_
  rw [rounds_succ]
  go_wp2
  go_ret
  exact ⟨rfl, rfl⟩
set_option maxHeartbeats 4000000 in
theorem why_hit (e : Addr) (n : Int) (w : World) (hc : w.cell? e = some (.int .i64 n)) (hg : w.cell? ⟨0, 0, none⟩ = some (.iface 144 (.agg #[.pointer (some ⟨1, 86, none⟩)]))) :
    Calls Tryd.prog 42 #[.iface 107 (.pointer (some e))] w fun ev w' => ev = .returned (.int .i64 n) ∧ w' = (((((w.alloc (.cells #[.pointer (some e)] 107)).alloc (.cells #[.pointer (some ⟨w.heap.size, 0, none⟩)] 111)).alloc (.cells #[.pointer (some ⟨1, 111, none⟩), .pointer (some ⟨w.heap.size + 1, 0, none⟩), .int .u64 150] 129)).alloc (.cells #[.pointer (some ⟨1, 111, none⟩), .pointer (some ⟨w.heap.size + 1, 0, none⟩), .int .u64 150] 129)).alloc (.cells #[.pointer (some e)] 107)) := by
  have hlt : 0 < w.heap.size := by
    rcases Nat.eq_zero_or_pos w.heap.size with h0 | h
    · simp [World.cell?, h0] at hg
    · exact h
  have hgA : (w.alloc (.cells #[.pointer none] 107)).cell? ⟨0, 0, none⟩ = some (.iface 144 (.agg #[.pointer (some ⟨1, 86, none⟩)])) := by
    rw [World.cell?_alloc_lt _ _ ⟨0, 0, none⟩ hlt]; exact hg
  have htA : (w.alloc (.cells #[.pointer none] 107)).cell? ⟨w.heap.size, 0, none⟩ = some (.pointer none) := by simp
  have hfA : (w.alloc (.cells #[.pointer none] 107)).frozen? ⟨w.heap.size, 0, none⟩ = false := by simp
  have hel : e.block < w.heap.size := by
    rcases Nat.lt_or_ge e.block w.heap.size with h | h
    · exact h
    · simp [World.cell?, Array.getElem?_eq_none h] at hc
  have hc5 : (((((w.alloc (.cells #[.pointer (some e)] 107)).alloc (.cells #[.pointer (some ⟨w.heap.size, 0, none⟩)] 111)).alloc (.cells #[.pointer (some ⟨1, 111, none⟩), .pointer (some ⟨w.heap.size + 1, 0, none⟩), .int .u64 150] 129)).alloc (.cells #[.pointer (some ⟨1, 111, none⟩), .pointer (some ⟨w.heap.size + 1, 0, none⟩), .int .u64 150] 129)).alloc (.cells #[.pointer (some e)] 107)).cell? e = some (.int .i64 n) := by
    rw [World.cell?_alloc_lt _ _ e (by simp; omega), World.cell?_alloc_lt _ _ e (by simp; omega), World.cell?_alloc_lt _ _ e (by simp; omega), World.cell?_alloc_lt _ _ e (by simp; omega), World.cell?_alloc_lt _ _ e hel]; exact hc
  go_enter Tryd.func42, Tryd.ntmps42
  go_wp2_with (first | (go_at_call 59; refine (as_hit _ _ (.pointer none) _ hgA htA hfA).mono ?_; rintro e w' ⟨rfl, rfl⟩))
  go_ret
  exact ⟨rfl, rfl⟩
end Go.Proofs.YtdpflafjfkooeaaDoorG
