/- YtdpflafjfkooeaaZ20: a part of the proof, joined of its texts. -/
import Derived.Test.YtdpflafjfkooeaaZ19
namespace Go.Proofs.YtdpflafjfkooeaaG
open Go Go.RowKit Go.Proofs Go.Proofs.YtdpflafjfkooeaaG.Dec
set_option linter.unusedSimpArgs false
set_option linter.unusedVariables false
/-- Own rows among what a function gives, as values. -/
def rowsF (rows : Rows) : Nm → C
  | .row k => match rows[k]? with | some (ty, e, xs) => .row ty e xs | none => .none
  | _ => .none
theorem CallOk.frz {P : Program} {f : Nat} {args : List X} {res y : X} {rows : Rows} {fr : Bool} {hs : List Nat} (h : CallOk P f args res rows fr) (hx : endX (rowsF rows) res = some (y, hs)) (hy : y.all TV.res = true) : CallOk P f args y [] false :=
  ⟨h.callable, hy, fun h => (by cases h), fun w vs g hg hlt hall => (h.calls w vs g hg hlt hall).mono (by
    rintro e w' ⟨v, g', rfl, hf, ht, hv, hr⟩
    have r : Rel (rowsF rows) 0 { tmps := #[], defers := [] } w' g' := ⟨rfl, rfl, ht, fun n => by
      cases n with
      | t i => trivial
      | box k => trivial
      | row k =>
        simp only [rowsF]
        cases hk : rows[k]? with
        | none => trivial
        | some x => exact hr k x.1 x.2.1 x.2.2 hk⟩
    exact ⟨v, g'.frz hs, rfl, hf.trans (Fr.frz _ _ _), (r.frz _).tags, (endX_rel r hx (fun _ h => h) hv).1, fun k ty e xs hk => by simp at hk⟩)⟩
def zOp : Opn := ⟨0, 0, 0, []⟩
/-- An operation's cells. -/
def Opn.cs (o : Opn) : List TV := [.v (.raw (.int .i64 o.kind)), .v (.raw (.int .i64 o.at_)), .v (.raw (.int .i64 o.to_)), .v (.sl 1 (rn o.text))]
abbrev bbox (l : List Int) : Nat × List TV := (41, [.v (.sl 1 (bs l))])
set_option maxRecDepth 10000 in
set_option maxHeartbeats 8000000 in
theorem rop1_ok (l : List Int) (hB : Bytes l) (hl : l.length ≤ 30000000000000) (a : Opn) (rest : List Int) (h : readOp l = .ok a rest) : CallB Try.prog 51 [bbox l, (27, zOp.cs)] (lentA [0, 1]) (.ret (.tup []) [bbox l, (27, a.cs)]) := by
  have hr : CallB Try.prog 52 [(91, rdr l)] [r0] (.ret a.x (rbox rest)) := by have hr := rop_ok l hB hl; rw [h] at hr; exact hr
  refine fn_okB' T_ok (orc_ok _) mixed Try.func51 rfl (by kernel_rfl) (lv [[0, 1]]) 6 rfl (by simp) (by simp [Out.ok, X.all, PX.all, TV.isV, TV.lent, Opn.cs]) ?_
  simp only [lentL, lentA, List.map, argsG, Nat.zero_add, Nat.reduceAdd, List.cons_append, List.nil_append, Opn.cs, zOp]
  repeat' first
    | ((first
        | ((with_reducible refine vR_cons (by decide) ?_); generalize hk : KtR _ _ _ _ _ _ _ _ _ _ = k)
        | ((first
        | with_reducible refine vOps_cons' ?_
        | ((with_reducible apply orc_bc); (focus (exact hr; done)))) <;> generalize hk : Kt _ _ _ _ _ _ _ _ _ = k)) <;> (simp only [Try.f51, lv, E1, E2, E5, ET, T, orc_mv, noO_mv, mvB, orc_bx, noO_bx, bxB, fwd, fwds, inv, mOk, Int.toNat_natCast, Nat.div_one, Nat.mul_one, Int.reduceToNat, SB, List.not_mem_nil, ↓reduceIte, ne_eq, reduceCtorEq, Nat.reduceLT, Nat.reduceEqDiff, Nat.reduceAdd, Nat.reduceMul, Nat.reduceLeDiff, Nat.reduceDiv, Nat.reduceMod, Nat.reduceSub, Nat.reduceBEq, List.length_map, List.length_take, List.length_drop, Opn.x, zOp, bs_len, rn_len, cut_bs, cut_bsd, Int.sub_zero, Int.toNat_natCast, Int.reduceToNat, Int.natCast_zero]; (try simp (disch := omega) only [wrap_in, Int.toNat_natCast, tv_rn, tv_bst]); subst hk))
    | with_reducible first | refine Kt_p ?_ | refine Kt_i (by kernel_rfl) ?_ | refine Kr_f (by kernel_rfl) ?_
    | (with_reducible refine Kr_t ?_; simp only [List.length_append, List.length_cons, List.length_nil, Nat.reduceAdd, Nat.reduceSub, List.drop_succ_cons, List.drop_zero])
    | with_reducible first | refine vR_nil ?_ | refine KtR_i (by kernel_rfl) ?_ | refine KrR_i (by kernel_rfl) ?_ | refine vR_skip (by decide) ?_
    | ((with_reducible refine vB_i ?_ ?_) <;> intro _ <;> (first | (exfalso; omega) | (exact absurd trivial ‹¬True›) | (try dsimp only [])))
    | ((with_reducible refine vOps_nil' ?_); refine Kr_i (by kernel_rfl) ?_; generalize hk : plain _ _ = G; simp only [lv, E3, E2, E5, rawX, deadX, SB, List.not_mem_nil, ↓reduceIte, ne_eq, reduceCtorEq, Nat.reduceLT, Nat.reduceEqDiff, Nat.reduceAdd, Nat.reduceMul, Nat.reduceLeDiff, Nat.reduceDiv, Nat.reduceMod, Nat.reduceSub, Nat.reduceBEq, List.length_map, List.length_take, List.length_drop, Opn.x, zOp, bs_len, rn_len, cut_bs, cut_bsd, Int.sub_zero, Int.toNat_natCast, Int.reduceToNat, Int.natCast_zero] at hk; subst hk)
    | with_reducible refine vSeq_i ?_
    | with_reducible first | refine vRegion_i (by kernel_rfl) ?_ | refine Kv_i ?_
    | ((with_reducible apply vStrK_i); (focus (rfl; done)))
    | ((with_reducible refine imp_i ?_); intro _)
    | with_reducible first | refine Ks_n ?_ | refine Ks_r ?_ | refine Ks_e ?_ | refine Kl_e ?_ | refine Kx_n ?_ | refine Kl_r ?_ | refine vRet_i ?_ | refine vSkip_i ?_ | refine vExit_i ?_ | refine vBlock_i ?_ | refine Ks_p ?_ | refine Kl_p ?_ | refine blk_p ?_ | exact Kb_p | refine vGoto_i ?_ | refine vLabel_i ?_ | refine Ks_g ?_ | refine Kl_g ?_ | refine blk_g ?_ | refine jmp_g ?_ | refine jmp_n ?_ | refine jmp_r ?_ | refine nog_n ?_ | refine nog_r ?_ | refine blk_n ?_ | refine blk_r ?_ | refine blk_e ?_ | refine blk_o (by decide) ?_ | refine cp_t ?_ | refine cp_f ?_
    | ((with_reducible apply vCond_x); (focus (simp only [lv, E1, E2, E5, ET, T, orc_mv, noO_mv, mvB, orc_bx, noO_bx, bxB, fwd, fwds, inv, mOk, Int.toNat_natCast, Nat.div_one, Nat.mul_one, Int.reduceToNat, SB, List.not_mem_nil, ↓reduceIte, ne_eq, reduceCtorEq, Nat.reduceLT, Nat.reduceEqDiff, Nat.reduceAdd, Nat.reduceMul, Nat.reduceLeDiff, Nat.reduceDiv, Nat.reduceMod, Nat.reduceSub, Nat.reduceBEq, List.length_map, List.length_take, List.length_drop, Opn.x, zOp, bs_len, rn_len, cut_bs, cut_bsd, Int.sub_zero, Int.toNat_natCast, Int.reduceToNat, Int.natCast_zero]; with_reducible first | exact Eq.refl (bo true) | exact Eq.refl (bo false))))
    | ((with_reducible refine And.intro ?_ ?_); (focus (try omega)))
  first | refine Kb_r ?_ | refine Kb_n ?_
  simp only [Try.f51, E4, E3, E2, E5, rawX, deadX, ET, T, SB, List.not_mem_nil, ↓reduceIte, ne_eq, reduceCtorEq, Nat.reduceLT, Nat.reduceEqDiff, Nat.reduceAdd, Nat.reduceMul, Nat.reduceLeDiff, Nat.reduceDiv, Nat.reduceMod, Nat.reduceSub, Nat.reduceBEq, List.length_map, List.length_take, List.length_drop, Opn.x, zOp, bs_len, rn_len, cut_bs, cut_bsd, Int.sub_zero, Int.toNat_natCast, Int.reduceToNat, Int.natCast_zero]
  generalize hW : List.contains (wrs _) 0 = b
  obtain rfl : b = false := hW.symm.trans (by kernel_rfl)
  generalize hW : List.contains (wrs _) 1 = b
  obtain rfl : b = false := hW.symm.trans (by kernel_rfl)
  simp only [E4, E3, E2, E5, rawX, deadX, ET, T, SB, List.not_mem_nil, ↓reduceIte, ne_eq, reduceCtorEq, Nat.reduceLT, Nat.reduceEqDiff, Nat.reduceAdd, Nat.reduceMul, Nat.reduceLeDiff, Nat.reduceDiv, Nat.reduceMod, Nat.reduceSub, Nat.reduceBEq, List.length_map, List.length_take, List.length_drop, Opn.x, zOp, bs_len, rn_len, cut_bs, cut_bsd, Int.sub_zero, Int.toNat_natCast, Int.reduceToNat, Int.natCast_zero]
set_option maxRecDepth 10000 in
set_option maxHeartbeats 8000000 in
theorem rop1_bad (l : List Int) (hB : Bytes l) (hl : l.length ≤ 30000000000000) (e : Int) (h : readOp l = .bad e) : CallB Try.prog 51 [bbox l, (27, zOp.cs)] (lentA [0, 1]) (.pan (errno e)) := by
  have hr : CallB Try.prog 52 [(91, rdr l)] [r0] (.pan (errno e)) := by have hr := rop_ok l hB hl; rw [h] at hr; exact hr
  refine fn_okB' T_ok (orc_ok _) mixed Try.func51 rfl (by kernel_rfl) (lv [[0, 1]]) 6 rfl (by simp) trivial ?_
  simp only [lentL, lentA, List.map, argsG, Nat.zero_add, Nat.reduceAdd, List.cons_append, List.nil_append, Opn.cs, zOp]
  repeat' first
    | ((first
        | ((with_reducible refine vR_cons (by decide) ?_); generalize hk : KtR _ _ _ _ _ _ _ _ _ _ = k)
        | ((first
        | with_reducible refine vOps_cons' ?_
        | ((with_reducible apply orc_bc); (focus (exact hr; done)))) <;> generalize hk : Kt _ _ _ _ _ _ _ _ _ = k)) <;> (simp only [Try.f51, lv, E1, E2, E5, ET, T, orc_mv, noO_mv, mvB, orc_bx, noO_bx, bxB, fwd, fwds, inv, mOk, Int.toNat_natCast, Nat.div_one, Nat.mul_one, Int.reduceToNat, SB, List.not_mem_nil, ↓reduceIte, ne_eq, reduceCtorEq, Nat.reduceLT, Nat.reduceEqDiff, Nat.reduceAdd, Nat.reduceMul, Nat.reduceLeDiff, Nat.reduceDiv, Nat.reduceMod, Nat.reduceSub, Nat.reduceBEq, List.length_map, List.length_take, List.length_drop, Opn.x, zOp, bs_len, rn_len, cut_bs, cut_bsd, Int.sub_zero, Int.toNat_natCast, Int.reduceToNat, Int.natCast_zero]; (try simp (disch := omega) only [wrap_in, Int.toNat_natCast, tv_rn, tv_bst]); subst hk))
    | with_reducible first | refine Kt_p ?_ | refine Kt_i (by kernel_rfl) ?_ | refine Kr_f (by kernel_rfl) ?_
    | (with_reducible refine Kr_t ?_; simp only [List.length_append, List.length_cons, List.length_nil, Nat.reduceAdd, Nat.reduceSub, List.drop_succ_cons, List.drop_zero])
    | with_reducible first | refine vR_nil ?_ | refine KtR_i (by kernel_rfl) ?_ | refine KrR_i (by kernel_rfl) ?_ | refine vR_skip (by decide) ?_
    | ((with_reducible refine vB_i ?_ ?_) <;> intro _ <;> (first | (exfalso; omega) | (exact absurd trivial ‹¬True›) | (try dsimp only [])))
    | ((with_reducible refine vOps_nil' ?_); refine Kr_i (by kernel_rfl) ?_; generalize hk : plain _ _ = G; simp only [lv, E3, E2, E5, rawX, deadX, SB, List.not_mem_nil, ↓reduceIte, ne_eq, reduceCtorEq, Nat.reduceLT, Nat.reduceEqDiff, Nat.reduceAdd, Nat.reduceMul, Nat.reduceLeDiff, Nat.reduceDiv, Nat.reduceMod, Nat.reduceSub, Nat.reduceBEq, List.length_map, List.length_take, List.length_drop, Opn.x, zOp, bs_len, rn_len, cut_bs, cut_bsd, Int.sub_zero, Int.toNat_natCast, Int.reduceToNat, Int.natCast_zero] at hk; subst hk)
    | with_reducible refine vSeq_i ?_
    | with_reducible first | refine vRegion_i (by kernel_rfl) ?_ | refine Kv_i ?_
    | ((with_reducible apply vStrK_i); (focus (rfl; done)))
    | ((with_reducible refine imp_i ?_); intro _)
    | with_reducible first | refine Ks_n ?_ | refine Ks_r ?_ | refine Ks_e ?_ | refine Kl_e ?_ | refine Kx_n ?_ | refine Kl_r ?_ | refine vRet_i ?_ | refine vSkip_i ?_ | refine vExit_i ?_ | refine vBlock_i ?_ | refine Ks_p ?_ | refine Kl_p ?_ | refine blk_p ?_ | exact Kb_p | refine vGoto_i ?_ | refine vLabel_i ?_ | refine Ks_g ?_ | refine Kl_g ?_ | refine blk_g ?_ | refine jmp_g ?_ | refine jmp_n ?_ | refine jmp_r ?_ | refine nog_n ?_ | refine nog_r ?_ | refine blk_n ?_ | refine blk_r ?_ | refine blk_e ?_ | refine blk_o (by decide) ?_ | refine cp_t ?_ | refine cp_f ?_
    | ((with_reducible apply vCond_x); (focus (simp only [lv, E1, E2, E5, ET, T, orc_mv, noO_mv, mvB, orc_bx, noO_bx, bxB, fwd, fwds, inv, mOk, Int.toNat_natCast, Nat.div_one, Nat.mul_one, Int.reduceToNat, SB, List.not_mem_nil, ↓reduceIte, ne_eq, reduceCtorEq, Nat.reduceLT, Nat.reduceEqDiff, Nat.reduceAdd, Nat.reduceMul, Nat.reduceLeDiff, Nat.reduceDiv, Nat.reduceMod, Nat.reduceSub, Nat.reduceBEq, List.length_map, List.length_take, List.length_drop, Opn.x, zOp, bs_len, rn_len, cut_bs, cut_bsd, Int.sub_zero, Int.toNat_natCast, Int.reduceToNat, Int.natCast_zero]; with_reducible first | exact Eq.refl (bo true) | exact Eq.refl (bo false))))
    | ((with_reducible refine And.intro ?_ ?_); (focus (try omega)))
theorem readOp_e {l : List Int} {e : Int} (h : readOp l = .bad e) : e ≠ 0 := by
  unfold readOp at h
  repeat' split at h
  all_goals first | (cases h; done) | (cases h; omega) | (cases h; assumption)
/-- What a reading of an operation comes to. -/
def readOpF (l : List Int) : Opn × Int := match readOp l with
  | .ok a _ => if l.length > 4096 then (zOp, 3) else (a, 0)
  | .bad e => (zOp, e)
def noE (e : Int) : X := .tup [.agg [.v (.raw (.int .i64 0)), .v (.raw (.int .i64 0)), .v (.raw (.int .i64 0)), .sr 0], .one (.v (.raw (.int .i64 e)))]
def zRw : Rows := [(21, 1, [])]
def opE (o : Opn) (e : Int) : X := .tup [.agg o.cs, .one (.v (.raw (.int .i64 e)))]
set_option maxRecDepth 10000 in
set_option maxHeartbeats 8000000 in
theorem readOp_ok (l : List Int) (hB : Bytes l) (hl : l.length ≤ 30000000000000) : CallOk Try.prog 24 [sl (bs l)] (opE (readOpF l).1 (readOpF l).2) [] false := by
  have hw : ∀ {a rest}, readOp l = .ok a rest → CallB Try.prog 50 [bbox l, (27, zOp.cs)] [.p (.one (.cb 51 [0, 1]))] (.ret (i64 0) [bbox l, (27, a.cs)]) := fun h => caught_okR (hs := [0, 1]) (rop1_ok l hB hl _ _ h)
  have hv : ∀ {e}, readOp l = .bad e → CallB Try.prog 50 [bbox l, (27, zOp.cs)] [.p (.one (.cb 51 [0, 1]))] (.ret (i64 e) [(41, [.dead]), (27, [.dead, .dead, .dead, .dead])]) := fun h => caught_okP (hs := [0, 1]) (rop1_bad l hB hl _ h)
  cases hro : readOp l with
  | ok a rest =>
    have hw := hw hro
    rw [show readOpF l = if l.length > 4096 then (zOp, 3) else (a, 0) by rw [readOpF, hro]]
    split
    · refine CallOk.frz (res := noE 3) (rows := zRw) (fr := false) ?_ rfl rfl
      refine fn_ok' T_ok (orc_ok _) mixed Try.func24 rfl (by kernel_rfl) (lv [[1, 2], [1, 2, 4], [1, 2, 4, 5], [2, 4, 5, 14], [2, 4, 5], [2, 4, 5, 16], [2, 3], [2, 3]]) 20 rfl (by simp) rfl (by simp) ?_
      simp only [argsG, Nat.zero_add, Nat.reduceAdd, Opn.cs, zOp] at *
      repeat' first
        | ((first
            | ((with_reducible refine vR_cons (by decide) ?_); generalize hk : KtR _ _ _ _ _ _ _ _ _ _ = k)
            | ((first
            | with_reducible refine vOps_cons' ?_
            | ((with_reducible apply orc_bc); (focus (exact hw; done)))) <;> generalize hk : Kt _ _ _ _ _ _ _ _ _ = k)) <;> (simp only [Try.f24, lv, E1, E2, E5, ET, T, orc_mv, noO_mv, mvB, orc_bx, noO_bx, bxB, fwd, fwds, inv, mOk, Int.toNat_natCast, Nat.div_one, Nat.mul_one, Int.reduceToNat, SB, List.not_mem_nil, ↓reduceIte, ne_eq, reduceCtorEq, Nat.reduceLT, Nat.reduceEqDiff, Nat.reduceAdd, Nat.reduceMul, Nat.reduceLeDiff, Nat.reduceDiv, Nat.reduceMod, Nat.reduceSub, Nat.reduceBEq, List.length_map, List.length_take, List.length_drop, Opn.x, zOp, bs_len, rn_len, cut_bs, cut_bsd, Int.sub_zero, Int.toNat_natCast, Int.reduceToNat, Int.natCast_zero]; (try simp (disch := omega) only [wrap_in, Int.toNat_natCast, tv_rn, tv_bst]); subst hk))
        | with_reducible first | refine Kt_p ?_ | refine Kt_i (by kernel_rfl) ?_ | refine Kr_f (by kernel_rfl) ?_
        | (with_reducible refine Kr_t ?_; simp only [List.length_append, List.length_cons, List.length_nil, Nat.reduceAdd, Nat.reduceSub, List.drop_succ_cons, List.drop_zero])
        | with_reducible first | refine vR_nil ?_ | refine KtR_i (by kernel_rfl) ?_ | refine KrR_i (by kernel_rfl) ?_ | refine vR_skip (by decide) ?_
        | ((with_reducible refine vB_i ?_ ?_) <;> intro _ <;> (first | (exfalso; omega) | (exact absurd trivial ‹¬True›) | (try dsimp only [])))
        | ((with_reducible refine vOps_nil' ?_); refine Kr_i (by kernel_rfl) ?_; generalize hk : plain _ _ = G; simp only [lv, E3, E2, E5, rawX, deadX, SB, List.not_mem_nil, ↓reduceIte, ne_eq, reduceCtorEq, Nat.reduceLT, Nat.reduceEqDiff, Nat.reduceAdd, Nat.reduceMul, Nat.reduceLeDiff, Nat.reduceDiv, Nat.reduceMod, Nat.reduceSub, Nat.reduceBEq, List.length_map, List.length_take, List.length_drop, Opn.x, zOp, bs_len, rn_len, cut_bs, cut_bsd, Int.sub_zero, Int.toNat_natCast, Int.reduceToNat, Int.natCast_zero] at hk; subst hk)
        | with_reducible refine vSeq_i ?_
        | with_reducible first | refine vRegion_i (by kernel_rfl) ?_ | refine Kv_i ?_
        | ((with_reducible apply vStrK_i); (focus (rfl; done)))
        | ((with_reducible refine imp_i ?_); intro _)
        | with_reducible first | refine Ks_n ?_ | refine Ks_r ?_ | refine Ks_e ?_ | refine Kl_e ?_ | refine Kx_n ?_ | refine Kl_r ?_ | refine vRet_i ?_ | refine vSkip_i ?_ | refine vExit_i ?_ | refine vBlock_i ?_ | refine Ks_p ?_ | refine Kl_p ?_ | refine blk_p ?_ | exact Kb_p | refine vGoto_i ?_ | refine vLabel_i ?_ | refine Ks_g ?_ | refine Kl_g ?_ | refine blk_g ?_ | refine jmp_g ?_ | refine jmp_n ?_ | refine jmp_r ?_ | refine nog_n ?_ | refine nog_r ?_ | refine blk_n ?_ | refine blk_r ?_ | refine blk_e ?_ | refine blk_o (by decide) ?_ | refine cp_t ?_ | refine cp_f ?_
        | ((with_reducible apply vCond_x); (focus (simp only [lv, E1, E2, E5, ET, T, orc_mv, noO_mv, mvB, orc_bx, noO_bx, bxB, fwd, fwds, inv, mOk, Int.toNat_natCast, Nat.div_one, Nat.mul_one, Int.reduceToNat, SB, List.not_mem_nil, ↓reduceIte, ne_eq, reduceCtorEq, Nat.reduceLT, Nat.reduceEqDiff, Nat.reduceAdd, Nat.reduceMul, Nat.reduceLeDiff, Nat.reduceDiv, Nat.reduceMod, Nat.reduceSub, Nat.reduceBEq, List.length_map, List.length_take, List.length_drop, Opn.x, zOp, bs_len, rn_len, cut_bs, cut_bsd, Int.sub_zero, Int.toNat_natCast, Int.reduceToNat, Int.natCast_zero]; with_reducible first | exact Eq.refl (bo true) | exact Eq.refl (bo false))))
        | ((with_reducible refine And.intro ?_ ?_); (focus (try omega)))
      all_goals first | (exfalso; omega) | skip
      refine Kf_r ?_
      simp only [Try.f24, E4, E3, E2, E5, rawX, deadX, ET, T, SB, List.not_mem_nil, ↓reduceIte, ne_eq, reduceCtorEq, Nat.reduceLT, Nat.reduceEqDiff, Nat.reduceAdd, Nat.reduceMul, Nat.reduceLeDiff, Nat.reduceDiv, Nat.reduceMod, Nat.reduceSub, Nat.reduceBEq, List.length_map, List.length_take, List.length_drop, Opn.x, zOp, bs_len, rn_len, cut_bs, cut_bsd, Int.sub_zero, Int.toNat_natCast, Int.reduceToNat, Int.natCast_zero, noE, zRw]
    · refine fn_ok' T_ok (orc_ok _) mixed Try.func24 rfl (by kernel_rfl) (lv [[1, 2], [1, 2, 4], [1, 2, 4, 5], [2, 4, 5, 14], [2, 4, 5], [2, 4, 5, 16], [2, 3], [2, 3]]) 20 rfl (by simp) rfl (by simp) ?_
      simp only [argsG, Nat.zero_add, Nat.reduceAdd, Opn.cs, zOp] at *
      repeat' first
        | ((first
            | ((with_reducible refine vR_cons (by decide) ?_); generalize hk : KtR _ _ _ _ _ _ _ _ _ _ = k)
            | ((first
            | with_reducible refine vOps_cons' ?_
            | ((with_reducible apply orc_bc); (focus (exact hw; done)))) <;> generalize hk : Kt _ _ _ _ _ _ _ _ _ = k)) <;> (simp only [Try.f24, lv, E1, E2, E5, ET, T, orc_mv, noO_mv, mvB, orc_bx, noO_bx, bxB, fwd, fwds, inv, mOk, Int.toNat_natCast, Nat.div_one, Nat.mul_one, Int.reduceToNat, SB, List.not_mem_nil, ↓reduceIte, ne_eq, reduceCtorEq, Nat.reduceLT, Nat.reduceEqDiff, Nat.reduceAdd, Nat.reduceMul, Nat.reduceLeDiff, Nat.reduceDiv, Nat.reduceMod, Nat.reduceSub, Nat.reduceBEq, List.length_map, List.length_take, List.length_drop, Opn.x, zOp, bs_len, rn_len, cut_bs, cut_bsd, Int.sub_zero, Int.toNat_natCast, Int.reduceToNat, Int.natCast_zero]; (try simp (disch := omega) only [wrap_in, Int.toNat_natCast, tv_rn, tv_bst]); subst hk))
        | with_reducible first | refine Kt_p ?_ | refine Kt_i (by kernel_rfl) ?_ | refine Kr_f (by kernel_rfl) ?_
        | (with_reducible refine Kr_t ?_; simp only [List.length_append, List.length_cons, List.length_nil, Nat.reduceAdd, Nat.reduceSub, List.drop_succ_cons, List.drop_zero])
        | with_reducible first | refine vR_nil ?_ | refine KtR_i (by kernel_rfl) ?_ | refine KrR_i (by kernel_rfl) ?_ | refine vR_skip (by decide) ?_
        | ((with_reducible refine vB_i ?_ ?_) <;> intro _ <;> (first | (exfalso; omega) | (exact absurd trivial ‹¬True›) | (try dsimp only [])))
        | ((with_reducible refine vOps_nil' ?_); refine Kr_i (by kernel_rfl) ?_; generalize hk : plain _ _ = G; simp only [lv, E3, E2, E5, rawX, deadX, SB, List.not_mem_nil, ↓reduceIte, ne_eq, reduceCtorEq, Nat.reduceLT, Nat.reduceEqDiff, Nat.reduceAdd, Nat.reduceMul, Nat.reduceLeDiff, Nat.reduceDiv, Nat.reduceMod, Nat.reduceSub, Nat.reduceBEq, List.length_map, List.length_take, List.length_drop, Opn.x, zOp, bs_len, rn_len, cut_bs, cut_bsd, Int.sub_zero, Int.toNat_natCast, Int.reduceToNat, Int.natCast_zero] at hk; subst hk)
        | with_reducible refine vSeq_i ?_
        | with_reducible first | refine vRegion_i (by kernel_rfl) ?_ | refine Kv_i ?_
        | ((with_reducible apply vStrK_i); (focus (rfl; done)))
        | ((with_reducible refine imp_i ?_); intro _)
        | with_reducible first | refine Ks_n ?_ | refine Ks_r ?_ | refine Ks_e ?_ | refine Kl_e ?_ | refine Kx_n ?_ | refine Kl_r ?_ | refine vRet_i ?_ | refine vSkip_i ?_ | refine vExit_i ?_ | refine vBlock_i ?_ | refine Ks_p ?_ | refine Kl_p ?_ | refine blk_p ?_ | exact Kb_p | refine vGoto_i ?_ | refine vLabel_i ?_ | refine Ks_g ?_ | refine Kl_g ?_ | refine blk_g ?_ | refine jmp_g ?_ | refine jmp_n ?_ | refine jmp_r ?_ | refine nog_n ?_ | refine nog_r ?_ | refine blk_n ?_ | refine blk_r ?_ | refine blk_e ?_ | refine blk_o (by decide) ?_ | refine cp_t ?_ | refine cp_f ?_
        | ((with_reducible apply vCond_x); (focus (simp only [lv, E1, E2, E5, ET, T, orc_mv, noO_mv, mvB, orc_bx, noO_bx, bxB, fwd, fwds, inv, mOk, Int.toNat_natCast, Nat.div_one, Nat.mul_one, Int.reduceToNat, SB, List.not_mem_nil, ↓reduceIte, ne_eq, reduceCtorEq, Nat.reduceLT, Nat.reduceEqDiff, Nat.reduceAdd, Nat.reduceMul, Nat.reduceLeDiff, Nat.reduceDiv, Nat.reduceMod, Nat.reduceSub, Nat.reduceBEq, List.length_map, List.length_take, List.length_drop, Opn.x, zOp, bs_len, rn_len, cut_bs, cut_bsd, Int.sub_zero, Int.toNat_natCast, Int.reduceToNat, Int.natCast_zero]; with_reducible first | exact Eq.refl (bo true) | exact Eq.refl (bo false))))
        | ((with_reducible refine And.intro ?_ ?_); (focus (try omega)))
      all_goals first | (exfalso; omega) | skip
      refine Kf_r ?_
      simp only [Try.f24, E4, E3, E2, E5, rawX, deadX, ET, T, SB, List.not_mem_nil, ↓reduceIte, ne_eq, reduceCtorEq, Nat.reduceLT, Nat.reduceEqDiff, Nat.reduceAdd, Nat.reduceMul, Nat.reduceLeDiff, Nat.reduceDiv, Nat.reduceMod, Nat.reduceSub, Nat.reduceBEq, List.length_map, List.length_take, List.length_drop, Opn.x, zOp, bs_len, rn_len, cut_bs, cut_bsd, Int.sub_zero, Int.toNat_natCast, Int.reduceToNat, Int.natCast_zero, opE, Opn.cs, zOp]
  | bad e =>
    have hv := hv hro
    have he := readOp_e hro
    rw [show readOpF l = (zOp, e) by rw [readOpF, hro]]
    refine CallOk.frz (res := noE e) (rows := zRw) (fr := false) ?_ rfl rfl
    refine fn_ok' T_ok (orc_ok _) mixed Try.func24 rfl (by kernel_rfl) (lv [[1, 2], [1, 2, 4], [1, 2, 4, 5], [2, 4, 5, 14], [2, 4, 5], [2, 4, 5, 16], [2, 3], [2, 3]]) 20 rfl (by simp) rfl (by simp) ?_
    simp only [argsG, Nat.zero_add, Nat.reduceAdd, Opn.cs, zOp] at *
    repeat' first
      | ((first
          | ((with_reducible refine vR_cons (by decide) ?_); generalize hk : KtR _ _ _ _ _ _ _ _ _ _ = k)
          | ((first
          | with_reducible refine vOps_cons' ?_
          | ((with_reducible apply orc_bc); (focus (exact hv; done)))) <;> generalize hk : Kt _ _ _ _ _ _ _ _ _ = k)) <;> (simp only [Try.f24, lv, E1, E2, E5, ET, T, orc_mv, noO_mv, mvB, orc_bx, noO_bx, bxB, fwd, fwds, inv, mOk, Int.toNat_natCast, Nat.div_one, Nat.mul_one, Int.reduceToNat, SB, List.not_mem_nil, ↓reduceIte, ne_eq, reduceCtorEq, Nat.reduceLT, Nat.reduceEqDiff, Nat.reduceAdd, Nat.reduceMul, Nat.reduceLeDiff, Nat.reduceDiv, Nat.reduceMod, Nat.reduceSub, Nat.reduceBEq, List.length_map, List.length_take, List.length_drop, Opn.x, zOp, bs_len, rn_len, cut_bs, cut_bsd, Int.sub_zero, Int.toNat_natCast, Int.reduceToNat, Int.natCast_zero]; (try simp (disch := omega) only [wrap_in, Int.toNat_natCast, tv_rn, tv_bst]); subst hk))
      | with_reducible first | refine Kt_p ?_ | refine Kt_i (by kernel_rfl) ?_ | refine Kr_f (by kernel_rfl) ?_
      | (with_reducible refine Kr_t ?_; simp only [List.length_append, List.length_cons, List.length_nil, Nat.reduceAdd, Nat.reduceSub, List.drop_succ_cons, List.drop_zero])
      | with_reducible first | refine vR_nil ?_ | refine KtR_i (by kernel_rfl) ?_ | refine KrR_i (by kernel_rfl) ?_ | refine vR_skip (by decide) ?_
      | ((with_reducible refine vB_i ?_ ?_) <;> intro _ <;> (first | (exfalso; omega) | (exact absurd trivial ‹¬True›) | (try dsimp only [])))
      | ((with_reducible refine vOps_nil' ?_); refine Kr_i (by kernel_rfl) ?_; generalize hk : plain _ _ = G; simp only [lv, E3, E2, E5, rawX, deadX, SB, List.not_mem_nil, ↓reduceIte, ne_eq, reduceCtorEq, Nat.reduceLT, Nat.reduceEqDiff, Nat.reduceAdd, Nat.reduceMul, Nat.reduceLeDiff, Nat.reduceDiv, Nat.reduceMod, Nat.reduceSub, Nat.reduceBEq, List.length_map, List.length_take, List.length_drop, Opn.x, zOp, bs_len, rn_len, cut_bs, cut_bsd, Int.sub_zero, Int.toNat_natCast, Int.reduceToNat, Int.natCast_zero] at hk; subst hk)
      | with_reducible refine vSeq_i ?_
      | with_reducible first | refine vRegion_i (by kernel_rfl) ?_ | refine Kv_i ?_
      | ((with_reducible apply vStrK_i); (focus (rfl; done)))
      | ((with_reducible refine imp_i ?_); intro _)
      | with_reducible first | refine Ks_n ?_ | refine Ks_r ?_ | refine Ks_e ?_ | refine Kl_e ?_ | refine Kx_n ?_ | refine Kl_r ?_ | refine vRet_i ?_ | refine vSkip_i ?_ | refine vExit_i ?_ | refine vBlock_i ?_ | refine Ks_p ?_ | refine Kl_p ?_ | refine blk_p ?_ | exact Kb_p | refine vGoto_i ?_ | refine vLabel_i ?_ | refine Ks_g ?_ | refine Kl_g ?_ | refine blk_g ?_ | refine jmp_g ?_ | refine jmp_n ?_ | refine jmp_r ?_ | refine nog_n ?_ | refine nog_r ?_ | refine blk_n ?_ | refine blk_r ?_ | refine blk_e ?_ | refine blk_o (by decide) ?_ | refine cp_t ?_ | refine cp_f ?_
      | ((with_reducible apply vCond_x); (focus (simp only [lv, E1, E2, E5, ET, T, orc_mv, noO_mv, mvB, orc_bx, noO_bx, bxB, fwd, fwds, inv, mOk, Int.toNat_natCast, Nat.div_one, Nat.mul_one, Int.reduceToNat, SB, List.not_mem_nil, ↓reduceIte, ne_eq, reduceCtorEq, Nat.reduceLT, Nat.reduceEqDiff, Nat.reduceAdd, Nat.reduceMul, Nat.reduceLeDiff, Nat.reduceDiv, Nat.reduceMod, Nat.reduceSub, Nat.reduceBEq, List.length_map, List.length_take, List.length_drop, Opn.x, zOp, bs_len, rn_len, cut_bs, cut_bsd, Int.sub_zero, Int.toNat_natCast, Int.reduceToNat, Int.natCast_zero]; with_reducible first | exact Eq.refl (bo true) | exact Eq.refl (bo false))))
      | ((with_reducible refine And.intro ?_ ?_); (focus (try omega)))
    all_goals first | (exfalso; omega) | skip
    refine Kf_r ?_
    simp only [Try.f24, E4, E3, E2, E5, rawX, deadX, ET, T, SB, List.not_mem_nil, ↓reduceIte, ne_eq, reduceCtorEq, Nat.reduceLT, Nat.reduceEqDiff, Nat.reduceAdd, Nat.reduceMul, Nat.reduceLeDiff, Nat.reduceDiv, Nat.reduceMod, Nat.reduceSub, Nat.reduceBEq, List.length_map, List.length_take, List.length_drop, Opn.x, zOp, bs_len, rn_len, cut_bs, cut_bsd, Int.sub_zero, Int.toNat_natCast, Int.reduceToNat, Int.natCast_zero, noE, zRw]
end Go.Proofs.YtdpflafjfkooeaaG
namespace Go.Proofs.YtdpflafjfkooeaaG
open Go Go.RowKit Go.Proofs Go.Proofs.YtdpflafjfkooeaaG.Dec
set_option linter.unusedSimpArgs false
set_option linter.unusedVariables false
/-- The number of the first k bytes. -/
def preN (xs : List Int) : Nat → Int
  | 0 => 0
  | k + 1 => preN xs k * 256 + xs.getD k 0
theorem getD_bd {xs : List Int} (h : Bytes xs) (k : Nat) : 0 ≤ xs.getD k 0 ∧ xs.getD k 0 ≤ 255 := rd_bd h k
theorem preN_bd {xs : List Int} (h : Bytes xs) : ∀ k, k ≤ 4 → 0 ≤ preN xs k ∧ preN xs k ≤ 256 ^ k - 1
  | 0, _ => by simp [preN]
  | k + 1, hk => by
    have h1 := preN_bd h k (by omega)
    have h2 := getD_bd h k
    have e : (256 : Int) ^ (k + 1) = 256 ^ k * 256 := Int.pow_succ 256 k
    simp only [preN]
    omega
theorem preN_le {xs : List Int} (h : Bytes xs) (k : Nat) (hk : k ≤ 4) : 0 ≤ preN xs k ∧ preN xs k ≤ 4294967295 := by
  have h1 := preN_bd h k hk
  have h2 : (256 : Int) ^ k ≤ 256 ^ 4 := by
    have : k = 0 ∨ k = 1 ∨ k = 2 ∨ k = 3 ∨ k = 4 := by omega
    rcases this with rfl | rfl | rfl | rfl | rfl <;> decide
  have e : (256 : Int) ^ 4 = 4294967296 := by decide
  omega
theorem preN_4 (xs : List Int) : preN xs 4 = numR xs := by
  simp only [preN, numR, rd]
  show (((0 * 256 + xs.getD 0 0) * 256 + xs.getD 1 0) * 256 + xs.getD 2 0) * 256 + xs.getD 3 0 = xs.getD 0 0 * 16777216 + xs.getD 1 0 * 65536 + xs.getD 2 0 * 256 + xs.getD 3 0
  omega
set_option maxRecDepth 10000 in
set_option maxHeartbeats 4000000 in
theorem num53_ok (xs : List Int) (hB : Bytes xs) (h4 : 4 ≤ xs.length) : CallOk Try.prog 53 [sl (bs xs)] (i64 (numR xs)) [] true := by
  refine fn_ok' T_ok (orc_ok _) mixed Try.func53 rfl (by kernel_rfl) (lv [[0], [0, 3], [0, 3, 4], [0, 3, 4, 6], [0, 3, 4], [0, 3, 4], [2]]) 18 rfl (by simp) rfl (by simp [X.all, PX.all, TV.rawR, SV.isRaw]) ?_
  simp only [argsG, Nat.zero_add, Nat.reduceAdd]
  repeat' first
    | ((first
        | ((with_reducible refine vR_cons (by decide) ?_); generalize hk : KtR _ _ _ _ _ _ _ _ _ _ = k)
        | ((first
        | with_reducible refine vOps_cons' ?_) <;> generalize hk : Kt _ _ _ _ _ _ _ _ _ = k)) <;> (simp only [Try.f53, lv, E1, E2, E5, ET, T, orc_mv, noO_mv, mvB, orc_bx, noO_bx, bxB, fwd, fwds, inv, mOk, Int.toNat_natCast, Nat.div_one, Nat.mul_one, Int.reduceToNat, SB, List.not_mem_nil, ↓reduceIte, ne_eq, reduceCtorEq, Nat.reduceLT, Nat.reduceEqDiff, Nat.reduceAdd, Nat.reduceMul, Nat.reduceLeDiff, Nat.reduceDiv, Nat.reduceMod, Nat.reduceSub, Nat.reduceBEq, List.length_map, List.length_take, List.length_drop, bs_len, rn_len, Opn.x, zOp, cut_bs, cut_bsd, Int.sub_zero, Int.toNat_natCast, Int.reduceToNat, Int.natCast_zero]; (try simp (disch := omega) only [wrap_in, Int.toNat_natCast, tv_rn, tv_bs]); subst hk))
    | with_reducible first | refine Kt_p ?_ | refine Kt_i (by kernel_rfl) ?_ | refine Kr_f (by kernel_rfl) ?_
    | (with_reducible refine Kr_t ?_; simp only [List.length_append, List.length_cons, List.length_nil, Nat.reduceAdd, Nat.reduceSub, List.drop_succ_cons, List.drop_zero])
    | with_reducible first | refine vR_nil ?_ | refine KtR_i (by kernel_rfl) ?_ | refine KrR_i (by kernel_rfl) ?_ | refine vR_skip (by decide) ?_
    | ((with_reducible refine vB_i ?_ ?_) <;> intro _ <;> (first | (exfalso; omega) | (exact absurd trivial ‹¬True›) | (try dsimp only [])))
    | ((with_reducible refine vOps_nil' ?_); refine Kr_i (by kernel_rfl) ?_; generalize hk : plain _ _ = G; simp only [lv, E3, E2, E5, rawX, deadX, SB, List.not_mem_nil, ↓reduceIte, ne_eq, reduceCtorEq, Nat.reduceLT, Nat.reduceEqDiff, Nat.reduceAdd, Nat.reduceMul, Nat.reduceLeDiff, Nat.reduceDiv, Nat.reduceMod, Nat.reduceSub, Nat.reduceBEq, List.length_map, List.length_take, List.length_drop, bs_len, rn_len, Opn.x, zOp, cut_bs, cut_bsd, Int.sub_zero, Int.toNat_natCast, Int.reduceToNat, Int.natCast_zero] at hk; subst hk)
    | with_reducible refine vSeq_i ?_
    | with_reducible first | refine vRegion_i (by kernel_rfl) ?_ | refine Kv_i ?_
    | ((with_reducible apply vStrK_i); (focus (rfl; done)))
    | ((with_reducible refine imp_i ?_); intro _)
    | with_reducible first | refine Ks_n ?_ | refine Ks_r ?_ | refine Ks_e ?_ | refine Kl_e ?_ | refine Kx_n ?_ | refine Kl_r ?_ | refine vRet_i ?_ | refine vSkip_i ?_ | refine vExit_i ?_ | refine vBlock_i ?_ | refine Ks_p ?_ | refine Kl_p ?_ | refine blk_p ?_ | exact Kb_p | refine vGoto_i ?_ | refine vLabel_i ?_ | refine Ks_g ?_ | refine Kl_g ?_ | refine blk_g ?_ | refine jmp_g ?_ | refine jmp_n ?_ | refine jmp_r ?_ | refine nog_n ?_ | refine nog_r ?_ | refine blk_n ?_ | refine blk_r ?_ | refine blk_e ?_ | refine blk_o (by decide) ?_ | refine cp_t ?_ | refine cp_f ?_
    | ((with_reducible apply vCond_x); (focus (simp only [lv, E1, E2, E5, ET, T, orc_mv, noO_mv, mvB, orc_bx, noO_bx, bxB, fwd, fwds, inv, mOk, Int.toNat_natCast, Nat.div_one, Nat.mul_one, Int.reduceToNat, SB, List.not_mem_nil, ↓reduceIte, ne_eq, reduceCtorEq, Nat.reduceLT, Nat.reduceEqDiff, Nat.reduceAdd, Nat.reduceMul, Nat.reduceLeDiff, Nat.reduceDiv, Nat.reduceMod, Nat.reduceSub, Nat.reduceBEq, List.length_map, List.length_take, List.length_drop, bs_len, rn_len, Opn.x, zOp, cut_bs, cut_bsd, Int.sub_zero, Int.toNat_natCast, Int.reduceToNat, Int.natCast_zero]; with_reducible first | exact Eq.refl (bo true) | exact Eq.refl (bo false))))
    | ((with_reducible refine And.intro ?_ ?_); (focus (try omega)))
  refine vLoop_s (fun k : Nat => [(.t 0, .t (sl (bs xs))), (.t 3, .t (i64 (preN xs k))), (.t 4, .t (i64 k))]) (fun k => k ≤ 4) (fun k => 4 - k) 0 (by omega) rfl ?_
  intro k hk
  have hp := preN_le hB k hk
  have hd := getD_bd hB k
  repeat' first
    | ((first
        | ((with_reducible refine vR_cons (by decide) ?_); generalize hk : KtR _ _ _ _ _ _ _ _ _ _ = k)
        | ((first
        | with_reducible refine vOps_cons' ?_) <;> generalize hk : Kt _ _ _ _ _ _ _ _ _ = k)) <;> (simp only [Try.f53, lv, E1, E2, E5, ET, T, orc_mv, noO_mv, mvB, orc_bx, noO_bx, bxB, fwd, fwds, inv, mOk, Int.toNat_natCast, Nat.div_one, Nat.mul_one, Int.reduceToNat, SB, List.not_mem_nil, ↓reduceIte, ne_eq, reduceCtorEq, Nat.reduceLT, Nat.reduceEqDiff, Nat.reduceAdd, Nat.reduceMul, Nat.reduceLeDiff, Nat.reduceDiv, Nat.reduceMod, Nat.reduceSub, Nat.reduceBEq, List.length_map, List.length_take, List.length_drop, bs_len, rn_len, Opn.x, zOp, cut_bs, cut_bsd, Int.sub_zero, Int.toNat_natCast, Int.reduceToNat, Int.natCast_zero]; (try simp (disch := omega) only [wrap_in, Int.toNat_natCast, tv_rn, tv_bs]); subst hk))
    | with_reducible first | refine Kt_p ?_ | refine Kt_i (by kernel_rfl) ?_ | refine Kr_f (by kernel_rfl) ?_
    | (with_reducible refine Kr_t ?_; simp only [List.length_append, List.length_cons, List.length_nil, Nat.reduceAdd, Nat.reduceSub, List.drop_succ_cons, List.drop_zero])
    | with_reducible first | refine vR_nil ?_ | refine KtR_i (by kernel_rfl) ?_ | refine KrR_i (by kernel_rfl) ?_ | refine vR_skip (by decide) ?_
    | ((with_reducible refine vB_i ?_ ?_) <;> intro _ <;> (first | (exfalso; omega) | (exact absurd trivial ‹¬True›) | (try dsimp only [])))
    | ((with_reducible refine vOps_nil' ?_); refine Kr_i (by kernel_rfl) ?_; generalize hk : plain _ _ = G; simp only [lv, E3, E2, E5, rawX, deadX, SB, List.not_mem_nil, ↓reduceIte, ne_eq, reduceCtorEq, Nat.reduceLT, Nat.reduceEqDiff, Nat.reduceAdd, Nat.reduceMul, Nat.reduceLeDiff, Nat.reduceDiv, Nat.reduceMod, Nat.reduceSub, Nat.reduceBEq, List.length_map, List.length_take, List.length_drop, bs_len, rn_len, Opn.x, zOp, cut_bs, cut_bsd, Int.sub_zero, Int.toNat_natCast, Int.reduceToNat, Int.natCast_zero] at hk; subst hk)
    | with_reducible refine vSeq_i ?_
    | with_reducible first | refine vRegion_i (by kernel_rfl) ?_ | refine Kv_i ?_
    | ((with_reducible apply vStrK_i); (focus (rfl; done)))
    | ((with_reducible refine imp_i ?_); intro _)
    | with_reducible first | refine Ks_n ?_ | refine Ks_r ?_ | refine Ks_e ?_ | refine Kl_e ?_ | refine Kx_n ?_ | refine Kl_r ?_ | refine vRet_i ?_ | refine vSkip_i ?_ | refine vExit_i ?_ | refine vBlock_i ?_ | refine Ks_p ?_ | refine Kl_p ?_ | refine blk_p ?_ | exact Kb_p | refine vGoto_i ?_ | refine vLabel_i ?_ | refine Ks_g ?_ | refine Kl_g ?_ | refine blk_g ?_ | refine jmp_g ?_ | refine jmp_n ?_ | refine jmp_r ?_ | refine nog_n ?_ | refine nog_r ?_ | refine blk_n ?_ | refine blk_r ?_ | refine blk_e ?_ | refine blk_o (by decide) ?_ | refine cp_t ?_ | refine cp_f ?_
    | ((with_reducible apply vCond_x); (focus (simp only [lv, E1, E2, E5, ET, T, orc_mv, noO_mv, mvB, orc_bx, noO_bx, bxB, fwd, fwds, inv, mOk, Int.toNat_natCast, Nat.div_one, Nat.mul_one, Int.reduceToNat, SB, List.not_mem_nil, ↓reduceIte, ne_eq, reduceCtorEq, Nat.reduceLT, Nat.reduceEqDiff, Nat.reduceAdd, Nat.reduceMul, Nat.reduceLeDiff, Nat.reduceDiv, Nat.reduceMod, Nat.reduceSub, Nat.reduceBEq, List.length_map, List.length_take, List.length_drop, bs_len, rn_len, Opn.x, zOp, cut_bs, cut_bsd, Int.sub_zero, Int.toNat_natCast, Int.reduceToNat, Int.natCast_zero]; with_reducible first | exact Eq.refl (bo true) | exact Eq.refl (bo false))))
    | ((with_reducible refine And.intro ?_ ?_); (focus (try omega)))
  all_goals try omega
  · refine Kl_n ⟨k + 1, by omega, by omega, ?_⟩
    simp only [preN, Int.natCast_add, Int.natCast_one]
  · rename_i hlast
    refine Kf_r ?_
    simp only [Try.f53, E4, E3, E2, E5, rawX, deadX, ET, T, SB, List.not_mem_nil, ↓reduceIte, ne_eq, reduceCtorEq, Nat.reduceLT, Nat.reduceEqDiff, Nat.reduceAdd, Nat.reduceMul, Nat.reduceLeDiff, Nat.reduceDiv, Nat.reduceMod, Nat.reduceSub, Nat.reduceBEq, List.length_map, List.length_take, List.length_drop, bs_len, rn_len, Opn.x, zOp, cut_bs, cut_bsd, Int.sub_zero, Int.toNat_natCast, Int.reduceToNat, Int.natCast_zero, show k = 4 by omega, preN_4]
theorem Opn.eq_iff {a b : Opn} : a = b ↔ a.kind = b.kind ∧ a.at_ = b.at_ ∧ a.to_ = b.to_ ∧ a.text = b.text := by
  constructor
  · rintro rfl; exact ⟨rfl, rfl, rfl, rfl⟩
  · rintro ⟨h1, h2, h3, h4⟩; cases a; cases b; simp_all
/-- Are two operations alike? -/
def sameO (a b : Opn) : Bool := decide (a.kind = b.kind ∧ a.at_ = b.at_ ∧ a.to_ = b.to_ ∧ a.text = b.text)
set_option maxRecDepth 10000 in
set_option maxHeartbeats 4000000 in
theorem sameOp_ok (a b : Opn) (ha : a.text.length ≤ 2000000) (hb2 : b.text.length ≤ 2000000) : CallOk Try.prog 26 [a.x, b.x] (bo (sameO a b)) [] true := by
  refine fn_ok' T_ok (orc_ok _) mixed Try.func26 rfl (by kernel_rfl) (lv [[2, 3], [4]]) 31 rfl (by simp) rfl (by simp [X.all, PX.all, TV.rawR, SV.isRaw]) ?_
  simp only [argsG, Nat.zero_add, Nat.reduceAdd, Opn.x]
  repeat' first
    | ((first
        | ((with_reducible refine vR_cons (by decide) ?_); generalize hk : KtR _ _ _ _ _ _ _ _ _ _ = k)
        | ((first
        | with_reducible refine vOps_cons' ?_
        | ((with_reducible apply orc_b); (focus (with_reducible exact same_ok _ _ ha hb2; done)); (all_goals (intro hb; (try simp only [decide_eq_true_eq, decide_eq_false_iff_not, Bool.not_eq_true', Bool.not_eq_false', Bool.and_eq_true, Decidable.not_not] at hb))))) <;> generalize hk : Kt _ _ _ _ _ _ _ _ _ = k)) <;> (simp only [Try.f26, lv, E1, E2, E5, ET, T, orc_mv, noO_mv, mvB, orc_bx, noO_bx, bxB, fwd, fwds, inv, mOk, Int.toNat_natCast, Nat.div_one, Nat.mul_one, Int.reduceToNat, SB, List.not_mem_nil, ↓reduceIte, ne_eq, reduceCtorEq, Nat.reduceLT, Nat.reduceEqDiff, Nat.reduceAdd, Nat.reduceMul, Nat.reduceLeDiff, Nat.reduceDiv, Nat.reduceMod, Nat.reduceSub, Nat.reduceBEq, List.length_map, List.length_take, List.length_drop, bs_len, rn_len, Opn.x, zOp, cut_bs, cut_bsd, Int.sub_zero, Int.toNat_natCast, Int.reduceToNat, Int.natCast_zero]; (try simp (disch := omega) only [wrap_in, Int.toNat_natCast, tv_rn, tv_bs]); subst hk))
    | with_reducible first | refine Kt_p ?_ | refine Kt_i (by kernel_rfl) ?_ | refine Kr_f (by kernel_rfl) ?_
    | (with_reducible refine Kr_t ?_; simp only [List.length_append, List.length_cons, List.length_nil, Nat.reduceAdd, Nat.reduceSub, List.drop_succ_cons, List.drop_zero])
    | with_reducible first | refine vR_nil ?_ | refine KtR_i (by kernel_rfl) ?_ | refine KrR_i (by kernel_rfl) ?_ | refine vR_skip (by decide) ?_
    | ((with_reducible refine vB_i ?_ ?_) <;> intro _ <;> (first | (exfalso; omega) | (exact absurd trivial ‹¬True›) | (try dsimp only [])))
    | ((with_reducible refine vOps_nil' ?_); refine Kr_i (by kernel_rfl) ?_; generalize hk : plain _ _ = G; simp only [lv, E3, E2, E5, rawX, deadX, SB, List.not_mem_nil, ↓reduceIte, ne_eq, reduceCtorEq, Nat.reduceLT, Nat.reduceEqDiff, Nat.reduceAdd, Nat.reduceMul, Nat.reduceLeDiff, Nat.reduceDiv, Nat.reduceMod, Nat.reduceSub, Nat.reduceBEq, List.length_map, List.length_take, List.length_drop, bs_len, rn_len, Opn.x, zOp, cut_bs, cut_bsd, Int.sub_zero, Int.toNat_natCast, Int.reduceToNat, Int.natCast_zero] at hk; subst hk)
    | with_reducible refine vSeq_i ?_
    | with_reducible first | refine vRegion_i (by kernel_rfl) ?_ | refine Kv_i ?_
    | ((with_reducible apply vStrK_i); (focus (rfl; done)))
    | ((with_reducible refine imp_i ?_); intro _)
    | with_reducible first | refine Ks_n ?_ | refine Ks_r ?_ | refine Ks_e ?_ | refine Kl_e ?_ | refine Kx_n ?_ | refine Kl_r ?_ | refine vRet_i ?_ | refine vSkip_i ?_ | refine vExit_i ?_ | refine vBlock_i ?_ | refine Ks_p ?_ | refine Kl_p ?_ | refine blk_p ?_ | exact Kb_p | refine vGoto_i ?_ | refine vLabel_i ?_ | refine Ks_g ?_ | refine Kl_g ?_ | refine blk_g ?_ | refine jmp_g ?_ | refine jmp_n ?_ | refine jmp_r ?_ | refine nog_n ?_ | refine nog_r ?_ | refine blk_n ?_ | refine blk_r ?_ | refine blk_e ?_ | refine blk_o (by decide) ?_ | refine cp_t ?_ | refine cp_f ?_
    | ((with_reducible apply vCond_x); (focus (simp only [lv, E1, E2, E5, ET, T, orc_mv, noO_mv, mvB, orc_bx, noO_bx, bxB, fwd, fwds, inv, mOk, Int.toNat_natCast, Nat.div_one, Nat.mul_one, Int.reduceToNat, SB, List.not_mem_nil, ↓reduceIte, ne_eq, reduceCtorEq, Nat.reduceLT, Nat.reduceEqDiff, Nat.reduceAdd, Nat.reduceMul, Nat.reduceLeDiff, Nat.reduceDiv, Nat.reduceMod, Nat.reduceSub, Nat.reduceBEq, List.length_map, List.length_take, List.length_drop, bs_len, rn_len, Opn.x, zOp, cut_bs, cut_bsd, Int.sub_zero, Int.toNat_natCast, Int.reduceToNat, Int.natCast_zero]; with_reducible first | exact Eq.refl (bo true) | exact Eq.refl (bo false))))
    | ((with_reducible refine And.intro ?_ ?_); (focus (try omega)))
  all_goals
    refine Kf_r ?_
    simp only [Try.f26, E4, E3, E2, E5, rawX, deadX, ET, T, SB, List.not_mem_nil, ↓reduceIte, ne_eq, reduceCtorEq, Nat.reduceLT, Nat.reduceEqDiff, Nat.reduceAdd, Nat.reduceMul, Nat.reduceLeDiff, Nat.reduceDiv, Nat.reduceMod, Nat.reduceSub, Nat.reduceBEq, List.length_map, List.length_take, List.length_drop, bs_len, rn_len, Opn.x, zOp, cut_bs, cut_bsd, Int.sub_zero, Int.toNat_natCast, Int.reduceToNat, Int.natCast_zero, X.p.injEq, X.tup.injEq, PX.one.injEq, PX.agg.injEq, TV.v.injEq, TV.sr.injEq, SV.raw.injEq, SV.sl.injEq, Value.bool.injEq, Value.int.injEq, List.cons.injEq, Prod.mk.injEq, true_and, and_true, and_self, sameO]
    symm
    simp only [decide_eq_true_eq, decide_eq_false_iff_not]
    simp_all
end Go.Proofs.YtdpflafjfkooeaaG
namespace Go.Proofs.YtdpflafjfkooeaaG
open Go Go.RowKit Go.Proofs Go.Proofs.YtdpflafjfkooeaaG.Dec
set_option linter.unusedSimpArgs false
set_option linter.unusedVariables false
theorem numR_nn {xs : List Int} (h : Bytes xs) : 0 ≤ numR xs := by
  have b0 := rd_bd h 0; have b1 := rd_bd h 1; have b2 := rd_bd h 2; have b3 := rd_bd h 3
  unfold numR
  omega
/-- A change, read. -/
def readCh (xs : List Int) : RR Ch :=
  if xs.length < 4 then .bad 20 else if numR xs > 2147483647 then .bad 50
  else if xs.length < 8 then .bad 20 else if numR (xs.drop 4) > 2147483647 then .bad 50
  else if (xs.length : Int) < 8 + numR (xs.drop 4) then .bad 20
  else if (dec ((xs.drop 8).take (numR (xs.drop 4)).toNat)).2.2 ≠ 0 then .bad (dec ((xs.drop 8).take (numR (xs.drop 4)).toNat)).2.2
  else if (xs.length : Int) < 12 + numR (xs.drop 4) then .bad 20
  else if numR (xs.drop (8 + (numR (xs.drop 4)).toNat)) > 2147483647 then .bad 50
  else if (xs.length : Int) < 12 + numR (xs.drop 4) + numR (xs.drop (8 + (numR (xs.drop 4)).toNat)) then .bad 20
  else if (dec ((xs.drop (8 + (numR (xs.drop 4)).toNat + 4)).take (numR (xs.drop (8 + (numR (xs.drop 4)).toNat))).toNat)).2.2 ≠ 0 then .bad (dec ((xs.drop (8 + (numR (xs.drop 4)).toNat + 4)).take (numR (xs.drop (8 + (numR (xs.drop 4)).toNat))).toNat)).2.2
  else .ok ⟨numR xs, (dec ((xs.drop 8).take (numR (xs.drop 4)).toNat)).1, (dec ((xs.drop (8 + (numR (xs.drop 4)).toNat + 4)).take (numR (xs.drop (8 + (numR (xs.drop 4)).toNat))).toNat)).1⟩ (xs.drop (8 + (numR (xs.drop 4)).toNat + 4 + (numR (xs.drop (8 + (numR (xs.drop 4)).toNat))).toNat))
def RR.pre (acc : List Ch) : RR (List Ch) → RR (List Ch)
  | .ok l r => .ok (acc ++ l) r
  | .bad e => .bad e
def readN : Nat → List Int → RR (List Ch)
  | 0, xs => .ok [] xs
  | n + 1, xs => match readCh xs with
    | .ok c r => (readN n r).pre [c]
    | .bad e => .bad e
def readChs (xs : List Int) : RR (List Ch) := if xs.length < 1 then .bad 20 else readN (rd xs 0).toNat (xs.drop 1)
theorem RR.pre_pre (a b : List Ch) (r : RR (List Ch)) : (r.pre b).pre a = r.pre (a ++ b) := by cases r <;> simp [RR.pre]
theorem RR.pre_nil (r : RR (List Ch)) : r.pre [] = r := by cases r <;> simp [RR.pre]
structure ChI (n : Nat) (xs : List Int) (s : Nat × List Ch × List Int) : Prop where
  le : s.1 ≤ n
  bytes : Bytes s.2.2
  len : s.2.2.length ≤ 30000000000000
  cnt : s.2.1.length = s.1
  eq : readN n xs = (readN (n - s.1) s.2.2).pre s.2.1
theorem ChI.bad {n xs s e} (h : ChI n xs s) (hlt : s.1 < n) (hb : readCh s.2.2 = .bad e) : readN n xs = .bad e := by
  rw [h.eq, show n - s.1 = (n - s.1 - 1) + 1 by omega, readN, hb]; rfl
theorem ChI.next {n xs s c r} (h : ChI n xs s) (hlt : s.1 < n) (hb : readCh s.2.2 = .ok c r) (hB : Bytes r) (hl : r.length ≤ s.2.2.length) : ChI n xs (s.1 + 1, s.2.1 ++ [c], r) :=
  ⟨by simp only []; omega, hB, Nat.le_trans hl h.len, by simp [h.cnt], by rw [h.eq, show n - s.1 = (n - (s.1 + 1)) + 1 by omega, readN, hb]; simp only [RR.pre_pre]⟩
theorem ChI.stop {n xs s} (h : ChI n xs s) (hlt : ¬ s.1 < n) : readN n xs = .ok s.2.1 s.2.2 := by
  rw [h.eq, show n - s.1 = 0 from by omega, readN]; simp [RR.pre]
set_option maxRecDepth 20000 in
set_option maxHeartbeats 16000000 in
theorem rchs_ok (xs : List Int) (hB : Bytes xs) (hl : xs.length ≤ 30000000000000) : CallB Try.prog 62 [(91, rdr xs)] [r0] (outR (readChs xs) fun l => sln 3 (chs l)) := by
  have b0 := rd_bd hB 0
  refine fn_okB' T_ok (orc_ok _) mixed Try.func62 rfl (by kernel_rfl) (lv [[0], [0, 3], [0, 3, 8, 9], [0, 3, 8, 9, 10], [0, 3, 4, 8, 9], [0, 3, 4, 8, 9], [0, 3, 4, 8, 9], [0, 3, 8, 9], [0, 3, 8, 9], [0, 2]]) 30 rfl (by simp) (outR_ok fun a => by simp [X.all, PX.all, TV.isV]) ?_
  simp only [lentL, argsG, Nat.zero_add, Nat.reduceAdd, List.cons_append, List.nil_append]
  repeat' first
    | ((first
        | ((with_reducible refine vR_cons (by decide) ?_); generalize hk : KtR _ _ _ _ _ _ _ _ _ _ = k)
        | ((first
        | with_reducible refine vOps_cons' ?_
        | ((with_reducible apply orc_bj); (focus (exact rk (by omega) _ (by omega); done)); (all_goals intro hb))) <;> generalize hk : Kt _ _ _ _ _ _ _ _ _ = k)) <;> (simp only [Try.f62, lv, E1, E2, E5, ET, T, orc_mv, noO_mv, mvB, orc_bx, noO_bx, bxB, fwd, fwds, inv, mOk, Int.toNat_natCast, Nat.div_one, Nat.mul_one, Int.reduceToNat, SB, List.not_mem_nil, ↓reduceIte, ne_eq, reduceCtorEq, Nat.reduceLT, Nat.reduceEqDiff, Nat.reduceAdd, Nat.reduceMul, Nat.reduceLeDiff, Nat.reduceDiv, Nat.reduceMod, Nat.reduceSub, Nat.reduceBEq, List.length_map, List.length_take, List.length_drop, bs_len, rn_len, cut_bs, cut_bsd, Int.sub_zero, Int.toNat_natCast, Int.reduceToNat, Int.natCast_zero, chs_len, chs_cnt, List.length_append, ← chs_snoc]; (try simp (disch := omega) only [wrap_in, Int.toNat_natCast, tv_rn, tv_bst]); subst hk))
    | with_reducible first | refine Kt_p ?_ | refine Kt_i (by kernel_rfl) ?_ | refine Kr_f (by kernel_rfl) ?_
    | (with_reducible refine Kr_t ?_; simp only [List.length_append, List.length_cons, List.length_nil, Nat.reduceAdd, Nat.reduceSub, List.drop_succ_cons, List.drop_zero])
    | with_reducible first | refine vR_nil ?_ | refine KtR_i (by kernel_rfl) ?_ | refine KrR_i (by kernel_rfl) ?_ | refine vR_skip (by decide) ?_
    | ((with_reducible refine vB_i ?_ ?_) <;> intro _ <;> (first | (exfalso; omega) | (exact absurd trivial ‹¬True›) | (try dsimp only [])))
    | ((with_reducible refine vOps_nil' ?_); refine Kr_i (by kernel_rfl) ?_; generalize hk : plain _ _ = G; simp only [lv, E3, E2, E5, rawX, deadX, SB, List.not_mem_nil, ↓reduceIte, ne_eq, reduceCtorEq, Nat.reduceLT, Nat.reduceEqDiff, Nat.reduceAdd, Nat.reduceMul, Nat.reduceLeDiff, Nat.reduceDiv, Nat.reduceMod, Nat.reduceSub, Nat.reduceBEq, List.length_map, List.length_take, List.length_drop, bs_len, rn_len, cut_bs, cut_bsd, Int.sub_zero, Int.toNat_natCast, Int.reduceToNat, Int.natCast_zero, chs_len, chs_cnt, List.length_append, ← chs_snoc] at hk; subst hk)
    | with_reducible refine vSeq_i ?_
    | with_reducible first | refine vRegion_i (by kernel_rfl) ?_ | refine Kv_i ?_
    | ((with_reducible apply vStrK_i); (focus (rfl; done)))
    | ((with_reducible refine imp_i ?_); intro _)
    | with_reducible first | refine Ks_n ?_ | refine Ks_r ?_ | refine Ks_e ?_ | refine Kl_e ?_ | refine Kx_n ?_ | refine Kl_r ?_ | refine vRet_i ?_ | refine vSkip_i ?_ | refine vExit_i ?_ | refine vBlock_i ?_ | refine Ks_p ?_ | refine Kl_p ?_ | refine blk_p ?_ | exact Kb_p | refine vGoto_i ?_ | refine vLabel_i ?_ | refine Ks_g ?_ | refine Kl_g ?_ | refine blk_g ?_ | refine jmp_g ?_ | refine jmp_n ?_ | refine jmp_r ?_ | refine nog_n ?_ | refine nog_r ?_ | refine blk_n ?_ | refine blk_r ?_ | refine blk_e ?_ | refine blk_o (by decide) ?_ | refine cp_t ?_ | refine cp_f ?_
    | ((with_reducible apply vCond_x); (focus (simp only [lv, E1, E2, E5, ET, T, orc_mv, noO_mv, mvB, orc_bx, noO_bx, bxB, fwd, fwds, inv, mOk, Int.toNat_natCast, Nat.div_one, Nat.mul_one, Int.reduceToNat, SB, List.not_mem_nil, ↓reduceIte, ne_eq, reduceCtorEq, Nat.reduceLT, Nat.reduceEqDiff, Nat.reduceAdd, Nat.reduceMul, Nat.reduceLeDiff, Nat.reduceDiv, Nat.reduceMod, Nat.reduceSub, Nat.reduceBEq, List.length_map, List.length_take, List.length_drop, bs_len, rn_len, cut_bs, cut_bsd, Int.sub_zero, Int.toNat_natCast, Int.reduceToNat, Int.natCast_zero, chs_len, chs_cnt, List.length_append, ← chs_snoc]; with_reducible first | exact Eq.refl (bo true) | exact Eq.refl (bo false))))
    | ((with_reducible refine And.intro ?_ ?_); (focus (try omega)))
  · have en : ((rd xs 0).toNat : Int) = rd xs 0 := by omega
    have e0 : readChs xs = readN (rd xs 0).toNat (xs.drop 1) := if_neg (by omega)
    have hI0 : ChI (rd xs 0).toNat (xs.drop 1) (0, [], xs.drop 1) := ⟨by omega, hB.drop 1, by simp only [List.length_drop]; omega, rfl, by simp [RR.pre_nil]⟩
    refine vLoop_s (fun s : Nat × List Ch × List Int => [(.t 0, .t r0), (.t 3, .t (.p (.one (.sr 1)))), (.t 8, .t (.p (.one (.v (.raw (.int .u8 (rd xs 0))))))), (.t 9, .t (.p (.one (.v (.raw (.int .u8 (s.1 : Int))))))), (.box 0, .box 91 (rdr s.2.2)), (.row 1, .row 67 3 (chs s.2.1))]) (ChI (rd xs 0).toNat (xs.drop 1)) (fun s => (rd xs 0).toNat - s.1) (0, [], xs.drop 1) hI0 rfl ?_
    rintro ⟨k, acc, r⟩ hI
    have h1 : k ≤ (rd xs 0).toNat := hI.le
    have hR : Bytes r := hI.bytes
    have hL : r.length ≤ 30000000000000 := hI.len
    have hC : acc.length = k := hI.cnt
    have n1 := numR_nn (hR.drop 4)
    have n2 := numR_nn (hR.drop (8 + (numR (r.drop 4)).toNat))
    simp only [] at *
    repeat' first
      | ((first
          | ((with_reducible refine vR_cons (by decide) ?_); generalize hk : KtR _ _ _ _ _ _ _ _ _ _ = k)
          | ((first
          | with_reducible refine vOps_cons' ?_
          | ((with_reducible apply orc_b3); (focus (exact rnum3 _ (by repeat (first | exact hR | apply Bytes.drop | apply Bytes.take)) (by (try simp only [List.length_drop, List.length_take]); omega); done)); (all_goals intros))
          | ((with_reducible apply orc_b3); (focus (exact rtext3 _ (by repeat (first | exact hR | apply Bytes.drop | apply Bytes.take)) (by (try simp only [List.length_drop, List.length_take]); omega) _ (by first | omega | exact numR_nn (by repeat (first | exact hR | apply Bytes.drop | apply Bytes.take))); done)); (all_goals intros))) <;> generalize hk : Kt _ _ _ _ _ _ _ _ _ = k)) <;> (simp only [Try.f62, lv, E1, E2, E5, ET, T, orc_mv, noO_mv, mvB, orc_bx, noO_bx, bxB, fwd, fwds, inv, mOk, Int.toNat_natCast, Nat.div_one, Nat.mul_one, Int.reduceToNat, SB, List.not_mem_nil, ↓reduceIte, ne_eq, reduceCtorEq, Nat.reduceLT, Nat.reduceEqDiff, Nat.reduceAdd, Nat.reduceMul, Nat.reduceLeDiff, Nat.reduceDiv, Nat.reduceMod, Nat.reduceSub, Nat.reduceBEq, List.length_map, List.length_take, List.length_drop, bs_len, rn_len, cut_bs, cut_bsd, Int.sub_zero, Int.toNat_natCast, Int.reduceToNat, Int.natCast_zero, chs_len, chs_cnt, List.length_append, ← chs_snoc]; (try simp (disch := omega) only [wrap_in, Int.toNat_natCast, tv_rn, tv_bst]); subst hk))
      | with_reducible first | refine Kt_p ?_ | refine Kt_i (by kernel_rfl) ?_ | refine Kr_f (by kernel_rfl) ?_
      | (with_reducible refine Kr_t ?_; simp only [List.length_append, List.length_cons, List.length_nil, Nat.reduceAdd, Nat.reduceSub, List.drop_succ_cons, List.drop_zero])
      | with_reducible first | refine vR_nil ?_ | refine KtR_i (by kernel_rfl) ?_ | refine KrR_i (by kernel_rfl) ?_ | refine vR_skip (by decide) ?_
      | ((with_reducible refine vB_i ?_ ?_) <;> intro _ <;> (first | (exfalso; omega) | (exact absurd trivial ‹¬True›) | (try dsimp only [])))
      | ((with_reducible refine vOps_nil' ?_); refine Kr_i (by kernel_rfl) ?_; generalize hk : plain _ _ = G; simp only [lv, E3, E2, E5, rawX, deadX, SB, List.not_mem_nil, ↓reduceIte, ne_eq, reduceCtorEq, Nat.reduceLT, Nat.reduceEqDiff, Nat.reduceAdd, Nat.reduceMul, Nat.reduceLeDiff, Nat.reduceDiv, Nat.reduceMod, Nat.reduceSub, Nat.reduceBEq, List.length_map, List.length_take, List.length_drop, bs_len, rn_len, cut_bs, cut_bsd, Int.sub_zero, Int.toNat_natCast, Int.reduceToNat, Int.natCast_zero, chs_len, chs_cnt, List.length_append, ← chs_snoc] at hk; subst hk)
      | with_reducible refine vSeq_i ?_
      | with_reducible first | refine vRegion_i (by kernel_rfl) ?_ | refine Kv_i ?_
      | ((with_reducible apply vStrK_i); (focus (rfl; done)))
      | ((with_reducible refine imp_i ?_); intro _)
      | with_reducible first | refine Ks_n ?_ | refine Ks_r ?_ | refine Ks_e ?_ | refine Kl_e ?_ | refine Kx_n ?_ | refine Kl_r ?_ | refine vRet_i ?_ | refine vSkip_i ?_ | refine vExit_i ?_ | refine vBlock_i ?_ | refine Ks_p ?_ | refine Kl_p ?_ | refine blk_p ?_ | exact Kb_p | refine vGoto_i ?_ | refine vLabel_i ?_ | refine Ks_g ?_ | refine Kl_g ?_ | refine blk_g ?_ | refine jmp_g ?_ | refine jmp_n ?_ | refine jmp_r ?_ | refine nog_n ?_ | refine nog_r ?_ | refine blk_n ?_ | refine blk_r ?_ | refine blk_e ?_ | refine blk_o (by decide) ?_ | refine cp_t ?_ | refine cp_f ?_
      | ((with_reducible apply vCond_x); (focus (simp only [lv, E1, E2, E5, ET, T, orc_mv, noO_mv, mvB, orc_bx, noO_bx, bxB, fwd, fwds, inv, mOk, Int.toNat_natCast, Nat.div_one, Nat.mul_one, Int.reduceToNat, SB, List.not_mem_nil, ↓reduceIte, ne_eq, reduceCtorEq, Nat.reduceLT, Nat.reduceEqDiff, Nat.reduceAdd, Nat.reduceMul, Nat.reduceLeDiff, Nat.reduceDiv, Nat.reduceMod, Nat.reduceSub, Nat.reduceBEq, List.length_map, List.length_take, List.length_drop, bs_len, rn_len, cut_bs, cut_bsd, Int.sub_zero, Int.toNat_natCast, Int.reduceToNat, Int.natCast_zero, chs_len, chs_cnt, List.length_append, ← chs_snoc]; with_reducible first | exact Eq.refl (bo true) | exact Eq.refl (bo false))))
      | ((with_reducible refine And.intro ?_ ?_); (focus (try omega)))
    all_goals try simp only [List.length_drop, List.length_take, List.drop_drop, Int.toNat_natCast, Nat.reduceAdd] at *
    all_goals try (simp only [cnt, List.length_append, List.length_cons, List.length_nil, chs_len] at *; omega)
    all_goals try
      ((refine Kb_pr ?_)
       rw [e0]
       refine hI.bad (by simp only []; omega) ?_
       show readCh r = .bad _
       unfold readCh
       (repeat' split) <;> first | (exfalso; omega) | rfl
       done)
    · have hn : readCh r = .ok ⟨numR r, (dec ((r.drop 8).take (numR (r.drop 4)).toNat)).1, (dec ((r.drop (8 + (numR (r.drop 4)).toNat + 4)).take (numR (r.drop (8 + (numR (r.drop 4)).toNat))).toNat)).1⟩ (r.drop (8 + (numR (r.drop 4)).toNat + 4 + (numR (r.drop (8 + (numR (r.drop 4)).toNat))).toNat)) := by
        unfold readCh
        (repeat' split) <;> first | (exfalso; omega) | rfl
      refine Kl_n ⟨_, hI.next (by simp only []; omega) hn (hR.drop _) (by simp only [List.length_drop]; omega), by simp only []; omega, ?_⟩
      simp only [chs_snoc, Int.natCast_add, Int.natCast_one]
      rw [u8in (by omega) (by omega)]
    · refine Kb_rr (a := acc) (rest := r) (by rw [e0]; exact hI.stop (by simp only []; omega)) ?_
      first | refine Kb_r ?_ | refine Kb_n ?_
      simp only [Try.f62, E4, E3, E2, E5, rawX, deadX, ET, T, SB, List.not_mem_nil, ↓reduceIte, ne_eq, reduceCtorEq, Nat.reduceLT, Nat.reduceEqDiff, Nat.reduceAdd, Nat.reduceMul, Nat.reduceLeDiff, Nat.reduceDiv, Nat.reduceMod, Nat.reduceSub, Nat.reduceBEq, List.length_map, List.length_take, List.length_drop, bs_len, rn_len, cut_bs, cut_bsd, Int.sub_zero, Int.toNat_natCast, Int.reduceToNat, Int.natCast_zero, chs_len, chs_cnt, List.length_append, ← chs_snoc]
      generalize hW : List.contains (wrs _) 0 = b
      obtain rfl : b = false := hW.symm.trans (by kernel_rfl)
      simp only [E4, E3, E2, E5, rawX, deadX, ET, T, SB, List.not_mem_nil, ↓reduceIte, ne_eq, reduceCtorEq, Nat.reduceLT, Nat.reduceEqDiff, Nat.reduceAdd, Nat.reduceMul, Nat.reduceLeDiff, Nat.reduceDiv, Nat.reduceMod, Nat.reduceSub, Nat.reduceBEq, List.length_map, List.length_take, List.length_drop, bs_len, rn_len, cut_bs, cut_bsd, Int.sub_zero, Int.toNat_natCast, Int.reduceToNat, Int.natCast_zero, chs_len, chs_cnt, List.length_append, ← chs_snoc]
  · exact Kb_pr (by unfold readChs; rw [if_pos (by omega)])
end Go.Proofs.YtdpflafjfkooeaaG
