/- YtdpflafjfkooeaaGreatDoorZ16: a part of the proof, joined of its texts. -/
import Derived.Test.YtdpflafjfkooeaaGreatDoorZ15
namespace Go.Proofs.YtdpflafjfkooeaaGreatDoorG
open Go Go.RowKit Go.Proofs
set_option linter.unusedSimpArgs false
set_option linter.unusedVariables false
/-- Bytes. -/
def bs (l : List Int) : List SV := l.map fun n => .raw (.int .u8 n)
theorem bs_len (l : List Int) : (bs l).length = l.length := by simp [bs]
theorem bs_app (a b : List Int) : bs (a ++ b) = bs a ++ bs b := by simp [bs]
theorem bs_nil : bs [] = [] := rfl
def numB (n : Int) : List Int := [n / 16777216 % 256, n / 65536 % 256, n / 256 % 256, n % 256]
theorem bs_raw {l : List Int} {x : SV} (h : x ∈ bs l) : x.isRaw = true := by
  obtain ⟨n, _, rfl⟩ := List.mem_map.1 h; rfl
theorem rows_raw {ty e : Nat} {l : List Int} : ∀ r ∈ ([(ty, e, bs l)] : Rows), ∀ x ∈ r.2.2, x.isRaw = true := fun r hr x hx => by
  simp only [List.mem_singleton] at hr; subst hr; exact bs_raw hx
theorem td {n k : Int} (h : 0 ≤ n) : n.tdiv k = n / k := Int.tdiv_eq_ediv_of_nonneg h
theorem tm {n k : Int} (h : 0 ≤ n) : n.tmod k = n % k := Int.tmod_eq_emod_of_nonneg h
theorem u8w (n : Int) : IntKind.u8.wrap n = n % 256 := by simp [IntKind.wrap, IntKind.bits, IntKind.signed]
theorem fdv (n : Int) {k : Int} (h : 0 < k) : n.fdiv k = n / k := Int.fdiv_eq_ediv_of_nonneg _ (Int.le_of_lt h)
theorem sh24 (n : Int) : n.fdiv (2 ^ min 24 IntKind.i64.bits) = n / 16777216 := fdv n (by decide)
theorem sh16 (n : Int) : n.fdiv (2 ^ min 16 IntKind.i64.bits) = n / 65536 := fdv n (by decide)
theorem sh8 (n : Int) : n.fdiv (2 ^ min 8 IntKind.i64.bits) = n / 256 := fdv n (by decide)
theorem DBC1 : type_of% (And.intro @List.length_map.{0,0} (And.intro @bs_len @rn_len)) := ⟨@List.length_map.{0,0}, @bs_len, @rn_len⟩
set_option maxRecDepth 10000 in
theorem number_ok (b : List Int) (n : Int) (hb : b.length ≤ 140000000000000) : CallM Tryz.prog 47 (5, 1, bs b) [i64 n] (.p (.one (.sr 0))) [(5, 1, bs (b ++ numB n))] := by
  refine fn_okM' T_ok (orc_ok _) mixed Tryz.func47 rfl (by kernel_rfl) (lv [[0, 1], [4]]) 19 rfl (by simp) rfl ?_
  simp only [argsG, Nat.zero_add, Nat.reduceAdd]
  repeat' first
    | ((first
        | ((with_reducible refine vR_cons (by decide) ?_); generalize hk : KtR _ _ _ _ _ _ _ _ _ _ = k)
        | ((first
        | with_reducible refine vOps_cons' ?_) <;> generalize hk : Kt _ _ _ _ _ _ _ _ _ = k)) <;> (simp only [Tryz.f47, lv, E1, E2, E5, ET, T, mvB, bxB, sxB, rxB, fwd, fwds, inv, mOk, EB, simprocAttr, DBC1]; (try simp (disch := omega) only [wrap_in, Int.toNat_natCast, tv_rn]); subst hk))
    | with_reducible first | refine Kt_p ?_ | refine Kt_i (by kernel_rfl) ?_ | refine Kr_f (by kernel_rfl) ?_
    | (with_reducible refine Kr_t ?_; simp only [List.length_append, List.length_cons, List.length_nil, Nat.reduceAdd, Nat.reduceSub, List.drop_succ_cons, List.drop_zero])
    | with_reducible first | refine vR_nil ?_ | refine KtR_i (by kernel_rfl) ?_ | refine KrR_i (by kernel_rfl) ?_ | refine vR_skip (by decide) ?_
    | ((with_reducible refine vB_i ?_ ?_) <;> intro _ <;> (first | (exfalso; omega) | (exact absurd trivial ‹¬True›) | (try dsimp only [])))
    | ((with_reducible refine vOps_nil' ?_); refine Kr_i (by kernel_rfl) ?_; generalize hk : plain _ _ = G; simp only [lv, E3, E2, E5, rawX, deadX, EB, simprocAttr, DBC1] at hk; subst hk)
    | with_reducible refine vSeq_i ?_
    | with_reducible first | refine vRegion_i (by kernel_rfl) ?_ | refine Kv_i ?_
    | ((with_reducible apply vStrK_i); (focus (rfl; done)))
    | ((with_reducible refine imp_i ?_); intro _)
    | with_reducible first | refine Ks_n ?_ | refine Ks_r ?_ | refine Ks_e ?_ | refine Kl_e ?_ | refine Kx_n ?_ | refine Kl_r ?_ | refine vRet_i ?_ | refine vSkip_i ?_ | refine vExit_i ?_ | refine vBlock_i ?_ | refine Ks_p ?_ | refine Kl_p ?_ | refine blk_p ?_ | exact Kb_p | refine vGoto_i ?_ | refine vLabel_i ?_ | refine Ks_g ?_ | refine Kl_g ?_ | refine blk_g ?_ | refine jmp_g ?_ | refine jmp_n ?_ | refine jmp_r ?_ | refine nog_n ?_ | refine nog_r ?_ | refine blk_n ?_ | refine blk_r ?_ | refine blk_e ?_ | refine blk_o (by decide) ?_ | refine cp_t ?_ | refine cp_f ?_
    | ((with_reducible apply vCond_x); (focus (simp only [lv, E1, E2, E5, ET, T, mvB, bxB, sxB, rxB, fwd, fwds, inv, mOk, EB, simprocAttr, DBC1]; with_reducible first | exact Eq.refl (bo true) | exact Eq.refl (bo false))))
    | ((with_reducible refine And.intro ?_ ?_); (focus (try omega)))
  all_goals try omega
  refine Kf_r ?_
  simp only [Tryz.f47, E4, E3, E2, E5, rawX, deadX, ET, T, EB, simprocAttr, DBC1, sh24, sh16, sh8, u8w]
  simp [bs, numB]
set_option maxRecDepth 10000 in
theorem digits_ok (n : Int) (h0 : 0 ≤ n) (h1 : n ≤ 2147483647) : CallOk Tryz.prog 62 [i64 n] (.p (.one (.sr 0))) [(5, 1, bs (numB n))] true := by
  have e1 : IntKind.i64.wrap (n.tdiv 16777216) = n / 16777216 := by rw [td h0, wrap_in] <;> omega
  have e2 : IntKind.i64.wrap (n.tdiv 65536) = n / 65536 := by rw [td h0, wrap_in] <;> omega
  have e3 : IntKind.i64.wrap (n.tdiv 256) = n / 256 := by rw [td h0, wrap_in] <;> omega
  refine fn_ok' T_ok (orc_ok _) mixed Tryz.func62 rfl (by kernel_rfl) (lv [[0], [2]]) 18 rfl (by simp) rfl (fun _ => ⟨rfl, rows_raw⟩) ?_
  simp only [argsG, Nat.zero_add, Nat.reduceAdd]
  repeat' first
    | ((first
        | ((with_reducible refine vR_cons (by decide) ?_); generalize hk : KtR _ _ _ _ _ _ _ _ _ _ = k)
        | ((first
        | with_reducible refine vOps_cons' ?_) <;> generalize hk : Kt _ _ _ _ _ _ _ _ _ = k)) <;> (simp only [Tryz.f62, lv, E1, E2, E5, ET, T, mvB, bxB, sxB, rxB, fwd, fwds, inv, mOk, EB, simprocAttr, DBC1]; (try simp (disch := omega) only [wrap_in, Int.toNat_natCast, tv_rn]); subst hk))
    | with_reducible first | refine Kt_p ?_ | refine Kt_i (by kernel_rfl) ?_ | refine Kr_f (by kernel_rfl) ?_
    | (with_reducible refine Kr_t ?_; simp only [List.length_append, List.length_cons, List.length_nil, Nat.reduceAdd, Nat.reduceSub, List.drop_succ_cons, List.drop_zero])
    | with_reducible first | refine vR_nil ?_ | refine KtR_i (by kernel_rfl) ?_ | refine KrR_i (by kernel_rfl) ?_ | refine vR_skip (by decide) ?_
    | ((with_reducible refine vB_i ?_ ?_) <;> intro _ <;> (first | (exfalso; omega) | (exact absurd trivial ‹¬True›) | (try dsimp only [])))
    | ((with_reducible refine vOps_nil' ?_); refine Kr_i (by kernel_rfl) ?_; generalize hk : plain _ _ = G; simp only [lv, E3, E2, E5, rawX, deadX, EB, simprocAttr, DBC1] at hk; subst hk)
    | with_reducible refine vSeq_i ?_
    | with_reducible first | refine vRegion_i (by kernel_rfl) ?_ | refine Kv_i ?_
    | ((with_reducible apply vStrK_i); (focus (rfl; done)))
    | ((with_reducible refine imp_i ?_); intro _)
    | with_reducible first | refine Ks_n ?_ | refine Ks_r ?_ | refine Ks_e ?_ | refine Kl_e ?_ | refine Kx_n ?_ | refine Kl_r ?_ | refine vRet_i ?_ | refine vSkip_i ?_ | refine vExit_i ?_ | refine vBlock_i ?_ | refine Ks_p ?_ | refine Kl_p ?_ | refine blk_p ?_ | exact Kb_p | refine vGoto_i ?_ | refine vLabel_i ?_ | refine Ks_g ?_ | refine Kl_g ?_ | refine blk_g ?_ | refine jmp_g ?_ | refine jmp_n ?_ | refine jmp_r ?_ | refine nog_n ?_ | refine nog_r ?_ | refine blk_n ?_ | refine blk_r ?_ | refine blk_e ?_ | refine blk_o (by decide) ?_ | refine cp_t ?_ | refine cp_f ?_
    | ((with_reducible apply vCond_x); (focus (simp only [lv, E1, E2, E5, ET, T, mvB, bxB, sxB, rxB, fwd, fwds, inv, mOk, EB, simprocAttr, DBC1]; with_reducible first | exact Eq.refl (bo true) | exact Eq.refl (bo false))))
    | ((with_reducible refine And.intro ?_ ?_); (focus (try omega)))
  all_goals try omega
  refine Kf_r ?_
  simp only [Tryz.f62, E4, E3, E2, E5, rawX, deadX, ET, T, EB, simprocAttr, DBC1, e1, e2, e3, u8w, bs, numB, List.map_cons, List.map_nil]
  rw [tm (by omega), tm (by omega), tm h0]
  simp only [Int.emod_emod]
set_option maxRecDepth 10000 in
theorem is_ok (n : Int) : CallOk Tryz.prog 45 [i64 n] (bo (decide (0 ≤ n ∧ n ≤ 2147483647))) [] true := by
  refine fn_ok' T_ok (orc_ok _) mixed Tryz.func45 rfl (by kernel_rfl) (lv [[0], [2]]) 9 rfl (by simp) rfl (by simp [X.all, PX.all, TV.rawR, SV.isRaw]) ?_
  simp only [argsG, Nat.zero_add, Nat.reduceAdd]
  repeat' first
    | ((first
        | ((with_reducible refine vR_cons (by decide) ?_); generalize hk : KtR _ _ _ _ _ _ _ _ _ _ = k)
        | ((first
        | with_reducible refine vOps_cons' ?_) <;> generalize hk : Kt _ _ _ _ _ _ _ _ _ = k)) <;> (simp only [Tryz.f45, lv, E1, E2, E5, ET, T, mvB, bxB, sxB, rxB, fwd, fwds, inv, mOk, EB, simprocAttr, DBC1]; (try simp (disch := omega) only [wrap_in, Int.toNat_natCast, tv_rn]); subst hk))
    | with_reducible first | refine Kt_p ?_ | refine Kt_i (by kernel_rfl) ?_ | refine Kr_f (by kernel_rfl) ?_
    | (with_reducible refine Kr_t ?_; simp only [List.length_append, List.length_cons, List.length_nil, Nat.reduceAdd, Nat.reduceSub, List.drop_succ_cons, List.drop_zero])
    | with_reducible first | refine vR_nil ?_ | refine KtR_i (by kernel_rfl) ?_ | refine KrR_i (by kernel_rfl) ?_ | refine vR_skip (by decide) ?_
    | ((with_reducible refine vB_i ?_ ?_) <;> intro _ <;> (first | (exfalso; omega) | (exact absurd trivial ‹¬True›) | (try dsimp only [])))
    | ((with_reducible refine vOps_nil' ?_); refine Kr_i (by kernel_rfl) ?_; generalize hk : plain _ _ = G; simp only [lv, E3, E2, E5, rawX, deadX, EB, simprocAttr, DBC1] at hk; subst hk)
    | with_reducible refine vSeq_i ?_
    | with_reducible first | refine vRegion_i (by kernel_rfl) ?_ | refine Kv_i ?_
    | ((with_reducible apply vStrK_i); (focus (rfl; done)))
    | ((with_reducible refine imp_i ?_); intro _)
    | with_reducible first | refine Ks_n ?_ | refine Ks_r ?_ | refine Ks_e ?_ | refine Kl_e ?_ | refine Kx_n ?_ | refine Kl_r ?_ | refine vRet_i ?_ | refine vSkip_i ?_ | refine vExit_i ?_ | refine vBlock_i ?_ | refine Ks_p ?_ | refine Kl_p ?_ | refine blk_p ?_ | exact Kb_p | refine vGoto_i ?_ | refine vLabel_i ?_ | refine Ks_g ?_ | refine Kl_g ?_ | refine blk_g ?_ | refine jmp_g ?_ | refine jmp_n ?_ | refine jmp_r ?_ | refine nog_n ?_ | refine nog_r ?_ | refine blk_n ?_ | refine blk_r ?_ | refine blk_e ?_ | refine blk_o (by decide) ?_ | refine cp_t ?_ | refine cp_f ?_
    | ((with_reducible apply vCond_x); (focus (simp only [lv, E1, E2, E5, ET, T, mvB, bxB, sxB, rxB, fwd, fwds, inv, mOk, EB, simprocAttr, DBC1]; with_reducible first | exact Eq.refl (bo true) | exact Eq.refl (bo false))))
    | ((with_reducible refine And.intro ?_ ?_); (focus (try omega)))
  all_goals refine Kf_r ?_
  all_goals simp only [Tryz.f45, E4, E3, E2, E5, rawX, deadX, ET, T, EB, simprocAttr, DBC1, X.p.injEq, X.tup.injEq, PX.one.injEq, PX.agg.injEq, TV.v.injEq, TV.sr.injEq, SV.raw.injEq, SV.sl.injEq, Value.bool.injEq, Value.int.injEq, List.cons.injEq, Prod.mk.injEq, true_and, and_true, and_self]
  all_goals (symm; simp only [decide_eq_true_eq, decide_eq_false_iff_not]; omega)
set_option maxRecDepth 10000 in
theorem is1_ok (n : Int) : CallOk Tryz.prog 61 [i64 n] (bo (decide (0 ≤ n ∧ n ≤ 2147483647))) [] true := by
  refine fn_ok' T_ok (orc_ok _) mixed Tryz.func61 rfl (by kernel_rfl) (lv [[0], [2]]) 9 rfl (by simp) rfl (by simp [X.all, PX.all, TV.rawR, SV.isRaw]) ?_
  simp only [argsG, Nat.zero_add, Nat.reduceAdd]
  repeat' first
    | ((first
        | ((with_reducible refine vR_cons (by decide) ?_); generalize hk : KtR _ _ _ _ _ _ _ _ _ _ = k)
        | ((first
        | with_reducible refine vOps_cons' ?_) <;> generalize hk : Kt _ _ _ _ _ _ _ _ _ = k)) <;> (simp only [Tryz.f61, lv, E1, E2, E5, ET, T, mvB, bxB, sxB, rxB, fwd, fwds, inv, mOk, EB, simprocAttr, DBC1]; (try simp (disch := omega) only [wrap_in, Int.toNat_natCast, tv_rn]); subst hk))
    | with_reducible first | refine Kt_p ?_ | refine Kt_i (by kernel_rfl) ?_ | refine Kr_f (by kernel_rfl) ?_
    | (with_reducible refine Kr_t ?_; simp only [List.length_append, List.length_cons, List.length_nil, Nat.reduceAdd, Nat.reduceSub, List.drop_succ_cons, List.drop_zero])
    | with_reducible first | refine vR_nil ?_ | refine KtR_i (by kernel_rfl) ?_ | refine KrR_i (by kernel_rfl) ?_ | refine vR_skip (by decide) ?_
    | ((with_reducible refine vB_i ?_ ?_) <;> intro _ <;> (first | (exfalso; omega) | (exact absurd trivial ‹¬True›) | (try dsimp only [])))
    | ((with_reducible refine vOps_nil' ?_); refine Kr_i (by kernel_rfl) ?_; generalize hk : plain _ _ = G; simp only [lv, E3, E2, E5, rawX, deadX, EB, simprocAttr, DBC1] at hk; subst hk)
    | with_reducible refine vSeq_i ?_
    | with_reducible first | refine vRegion_i (by kernel_rfl) ?_ | refine Kv_i ?_
    | ((with_reducible apply vStrK_i); (focus (rfl; done)))
    | ((with_reducible refine imp_i ?_); intro _)
    | with_reducible first | refine Ks_n ?_ | refine Ks_r ?_ | refine Ks_e ?_ | refine Kl_e ?_ | refine Kx_n ?_ | refine Kl_r ?_ | refine vRet_i ?_ | refine vSkip_i ?_ | refine vExit_i ?_ | refine vBlock_i ?_ | refine Ks_p ?_ | refine Kl_p ?_ | refine blk_p ?_ | exact Kb_p | refine vGoto_i ?_ | refine vLabel_i ?_ | refine Ks_g ?_ | refine Kl_g ?_ | refine blk_g ?_ | refine jmp_g ?_ | refine jmp_n ?_ | refine jmp_r ?_ | refine nog_n ?_ | refine nog_r ?_ | refine blk_n ?_ | refine blk_r ?_ | refine blk_e ?_ | refine blk_o (by decide) ?_ | refine cp_t ?_ | refine cp_f ?_
    | ((with_reducible apply vCond_x); (focus (simp only [lv, E1, E2, E5, ET, T, mvB, bxB, sxB, rxB, fwd, fwds, inv, mOk, EB, simprocAttr, DBC1]; with_reducible first | exact Eq.refl (bo true) | exact Eq.refl (bo false))))
    | ((with_reducible refine And.intro ?_ ?_); (focus (try omega)))
  all_goals refine Kf_r ?_
  all_goals simp only [Tryz.f61, E4, E3, E2, E5, rawX, deadX, ET, T, EB, simprocAttr, DBC1, X.p.injEq, X.tup.injEq, PX.one.injEq, PX.agg.injEq, TV.v.injEq, TV.sr.injEq, SV.raw.injEq, SV.sl.injEq, Value.bool.injEq, Value.int.injEq, List.cons.injEq, Prod.mk.injEq, true_and, and_true, and_self]
  all_goals (symm; simp only [decide_eq_true_eq, decide_eq_false_iff_not]; omega)
/-- A number's form. -/
def formF (r : Int) : List Int := if r < 128 then [r] else if r < 2048 then [192 + r / 64, 128 + r % 64] else if r < 65536 then [224 + r / 4096, 128 + r / 64 % 64, 128 + r % 64] else [240 + r / 262144, 128 + r / 4096 % 64, 128 + r / 64 % 64, 128 + r % 64]
theorem szU_0 {r : Int} (h1 : ¬ szU r = 1) (h2 : ¬ szU r = 2) (h3 : ¬ szU r = 3) (h4 : ¬ szU r = 4) : szU r = 0 := by
  unfold szU at *; (repeat' split at *) <;> first | rfl | (exfalso; omega)
theorem szU_1 {r : Int} (h : szU r = 1) : 0 ≤ r ∧ r < 128 := by
  unfold szU at h; (repeat' split at h) <;> omega
theorem szU_2 {r : Int} (h : szU r = 2) : 128 ≤ r ∧ r < 2048 := by
  unfold szU at h; (repeat' split at h) <;> omega
theorem szU_3 {r : Int} (h : szU r = 3) : 2048 ≤ r ∧ r < 65536 := by
  unfold szU at h; (repeat' split at h) <;> omega
theorem szU_4 {r : Int} (h : szU r = 4) : 65536 ≤ r ∧ r < 1114112 := by
  unfold szU at h; (repeat' split at h) <;> omega
theorem szU_le (r : Int) : 0 ≤ szU r ∧ szU r ≤ 4 := by unfold szU; (repeat' split) <;> omega
theorem form_1 {r : Int} (h : szU r = 1) : formF r = [r] := by have := szU_1 h; unfold formF; rw [if_pos this.2]
theorem form_2 {r : Int} (h : szU r = 2) : formF r = [192 + r / 64, 128 + r % 64] := by have := szU_2 h; unfold formF; rw [if_neg (by omega), if_pos this.2]
theorem form_3 {r : Int} (h : szU r = 3) : formF r = [224 + r / 4096, 128 + r / 64 % 64, 128 + r % 64] := by have := szU_3 h; unfold formF; rw [if_neg (by omega), if_neg (by omega), if_pos this.2]
theorem form_4 {r : Int} (h : szU r = 4) : formF r = [240 + r / 262144, 128 + r / 4096 % 64, 128 + r / 64 % 64, 128 + r % 64] := by have := szU_4 h; unfold formF; rw [if_neg (by omega), if_neg (by omega), if_neg (by omega)]
theorem form_len {r : Int} (h : szU r ≠ 0) : ((formF r).length : Int) = szU r := by
  have := szU_le r
  by_cases h1 : szU r = 1
  · rw [form_1 h1, h1]; rfl
  by_cases h2 : szU r = 2
  · rw [form_2 h2, h2]; rfl
  by_cases h3 : szU r = 3
  · rw [form_3 h3, h3]; rfl
  · have h4 : szU r = 4 := by omega
    rw [form_4 h4, h4]; rfl
theorem u8in {n : Int} (h0 : 0 ≤ n) (h1 : n < 256) : IntKind.u8.wrap n = n := by rw [u8w]; omega
set_option maxRecDepth 10000 in
theorem form_ok (r : Int) (hr : R32 r) : CallOk Tryz.prog 77 [i32 r] (.p (.one (.sr 0))) [(5, 1, bs (if szU r = 0 then [] else formF r))] true := by
  refine fn_ok' T_ok (orc_ok _) mixed Tryz.func77 rfl (by kernel_rfl) (lv [[0], [0, 3], [3, 7], [3, 7, 8], [2], [3, 7, 13], [2], [3, 7, 24], [2], [3, 40], [2], [2]]) 61 rfl (by simp) rfl (fun _ => ⟨rfl, rows_raw⟩) ?_
  simp only [argsG, Nat.zero_add, Nat.reduceAdd]
  repeat' first
    | ((first
        | ((with_reducible refine vR_cons (by decide) ?_); generalize hk : KtR _ _ _ _ _ _ _ _ _ _ = k)
        | ((first
        | with_reducible refine vOps_cons' ?_
        | ((with_reducible apply orc_i); (focus (exact size1_ok _ hr; done)))) <;> generalize hk : Kt _ _ _ _ _ _ _ _ _ = k)) <;> (simp only [Tryz.f77, lv, E1, E2, E5, ET, T, mvB, bxB, sxB, rxB, fwd, fwds, inv, mOk, EB, simprocAttr, DBC1]; (try simp (disch := omega) only [wrap_in, Int.toNat_natCast, tv_rn]); subst hk))
    | with_reducible first | refine Kt_p ?_ | refine Kt_i (by kernel_rfl) ?_ | refine Kr_f (by kernel_rfl) ?_
    | (with_reducible refine Kr_t ?_; simp only [List.length_append, List.length_cons, List.length_nil, Nat.reduceAdd, Nat.reduceSub, List.drop_succ_cons, List.drop_zero])
    | with_reducible first | refine vR_nil ?_ | refine KtR_i (by kernel_rfl) ?_ | refine KrR_i (by kernel_rfl) ?_ | refine vR_skip (by decide) ?_
    | ((with_reducible refine vB_i ?_ ?_) <;> intro _ <;> (first | (exfalso; omega) | (exact absurd trivial ‹¬True›) | (try dsimp only [])))
    | ((with_reducible refine vOps_nil' ?_); refine Kr_i (by kernel_rfl) ?_; generalize hk : plain _ _ = G; simp only [lv, E3, E2, E5, rawX, deadX, EB, simprocAttr, DBC1] at hk; subst hk)
    | with_reducible refine vSeq_i ?_
    | with_reducible first | refine vRegion_i (by kernel_rfl) ?_ | refine Kv_i ?_
    | ((with_reducible apply vStrK_i); (focus (rfl; done)))
    | ((with_reducible refine imp_i ?_); intro _)
    | with_reducible first | refine Ks_n ?_ | refine Ks_r ?_ | refine Ks_e ?_ | refine Kl_e ?_ | refine Kx_n ?_ | refine Kl_r ?_ | refine vRet_i ?_ | refine vSkip_i ?_ | refine vExit_i ?_ | refine vBlock_i ?_ | refine Ks_p ?_ | refine Kl_p ?_ | refine blk_p ?_ | exact Kb_p | refine vGoto_i ?_ | refine vLabel_i ?_ | refine Ks_g ?_ | refine Kl_g ?_ | refine blk_g ?_ | refine jmp_g ?_ | refine jmp_n ?_ | refine jmp_r ?_ | refine nog_n ?_ | refine nog_r ?_ | refine blk_n ?_ | refine blk_r ?_ | refine blk_e ?_ | refine blk_o (by decide) ?_ | refine cp_t ?_ | refine cp_f ?_
    | ((with_reducible apply vCond_x); (focus (simp only [lv, E1, E2, E5, ET, T, mvB, bxB, sxB, rxB, fwd, fwds, inv, mOk, EB, simprocAttr, DBC1]; with_reducible first | exact Eq.refl (bo true) | exact Eq.refl (bo false))))
    | ((with_reducible refine And.intro ?_ ?_); (focus (try omega)))
  all_goals try omega
  all_goals refine Kf_r ?_
  all_goals simp only [Tryz.f77, E4, E3, E2, E5, rawX, deadX, ET, T, EB, simprocAttr, DBC1]
  · rename_i h1
    have := szU_1 h1
    rw [if_neg (by omega), form_1 h1]
    simp (disch := omega) only [u8in, bs, List.map_cons, List.map_nil]
  · rename_i h1 h2
    have := szU_2 h2
    rw [if_neg (by omega), form_2 h2]
    simp (disch := omega) only [td, tm, wrap_in, u8in, bs, List.map_cons, List.map_nil]
  · rename_i h1 h2 h3
    have := szU_3 h3
    rw [if_neg (by omega), form_3 h3]
    simp (disch := omega) only [td, tm, wrap_in, u8in, bs, List.map_cons, List.map_nil]
  · rename_i h1 h2 h3 h4
    have := szU_4 h4
    rw [if_neg (by omega), form_4 h4]
    simp (disch := omega) only [td, tm, wrap_in, u8in, bs, List.map_cons, List.map_nil]
  · rename_i h1 h2 h3 h4
    rw [if_pos (szU_0 h1 h2 h3 h4)]
    rfl
end Go.Proofs.YtdpflafjfkooeaaGreatDoorG
namespace Go.Proofs.YtdpflafjfkooeaaGreatDoorG.Dec
open Go Go.RowKit Go.Proofs
set_option linter.unusedSimpArgs false
set_option linter.unusedVariables false
/-! ### bytes and what they are as scalar values, in plain Lean -/
def rd (l : List Int) (i : Int) : Int := l.getD i.toNat 0
def Bytes (l : List Int) : Prop := ∀ x ∈ l, 0 ≤ x ∧ x ≤ 255
def form (r : Int) : List Int :=
  if szU r = 1 then [r]
  else if szU r = 2 then [192 + r / 64, 128 + r % 64]
  else if szU r = 3 then [224 + r / 4096, 128 + r / 64 % 64, 128 + r % 64]
  else if szU r = 4 then [240 + r / 262144, 128 + r / 4096 % 64, 128 + r / 64 % 64, 128 + r % 64]
  else []
theorem size_range (r : Int) : szU r = 0 ∨ szU r = 1 ∨ szU r = 2 ∨ szU r = 3 ∨ szU r = 4 := by
  unfold szU
  repeat' split
  all_goals simp
theorem size_one {r : Int} (h : szU r = 1) : 0 ≤ r ∧ r < 128 := by
  unfold szU at h
  repeat' split at h
  all_goals omega
theorem size_two {r : Int} (h : szU r = 2) : 128 ≤ r ∧ r < 2048 := by
  unfold szU at h
  repeat' split at h
  all_goals omega
theorem size_three {r : Int} (h : szU r = 3) : 2048 ≤ r ∧ r < 65536 := by
  unfold szU at h
  repeat' split at h
  all_goals omega
theorem size_four {r : Int} (h : szU r = 4) : 65536 ≤ r ∧ r < 1114112 := by
  unfold szU at h
  repeat' split at h
  all_goals omega
theorem form_len (r : Int) : ((form r).length : Int) = szU r := by
  unfold form
  rcases size_range r with h | h | h | h | h <;> simp [h]
theorem form_byte (r : Int) : ∀ x ∈ form r, 0 ≤ x ∧ x ≤ 255 := by
  intro x hx
  unfold form at hx
  rcases size_range r with h | h | h | h | h
  · simp [h] at hx
  · have := size_one h
    simp [h] at hx
    omega
  · have := size_two h
    simp [h] at hx
    rcases hx with rfl | rfl <;> omega
  · have := size_three h
    simp [h] at hx
    rcases hx with rfl | rfl | rfl <;> omega
  · have := size_four h
    simp [h] at hx
    rcases hx with rfl | rfl | rfl | rfl <;> omega
theorem rd_byte {l : List Int} (h : Bytes l) (i : Nat) (hi : i < l.length) : 0 ≤ rd l i ∧ rd l i ≤ 255 := by
  have : rd l (i : Int) = l[i] := by simp [rd, List.getD, List.getElem?_eq_getElem hi]
  rw [this]; exact h _ (List.getElem_mem hi)
def cont (x : Int) : Bool := decide (128 ≤ x ∧ x < 192)
def two (l : List Int) : Int := rd l 0 % 32 * 64 + rd l 1 % 64
def three (l : List Int) : Int := (rd l 0 % 16 * 64 + rd l 1 % 64) * 64 + rd l 2 % 64
def four (l : List Int) : Int := ((rd l 0 % 8 * 64 + rd l 1 % 64) * 64 + rd l 2 % 64) * 64 + rd l 3 % 64
/-- The form at the front of bytes: its number and its length; (0, 0): there is none. -/
def nx (l : List Int) : Int × Int :=
  if l.length = 0 then (0, 0)
  else if rd l 0 < 128 then (rd l 0, 1)
  else if rd l 0 < 192 then (0, 0)
  else if rd l 0 < 224 then (if 2 ≤ l.length ∧ cont (rd l 1) = true ∧ szU (two l) = 2 then (two l, 2) else (0, 0))
  else if rd l 0 < 240 then (if 3 ≤ l.length ∧ cont (rd l 1) = true ∧ cont (rd l 2) = true ∧ szU (three l) = 3 then (three l, 3) else (0, 0))
  else if rd l 0 < 248 then (if 4 ≤ l.length ∧ cont (rd l 1) = true ∧ cont (rd l 2) = true ∧ cont (rd l 3) = true ∧ szU (four l) = 4 then (four l, 4) else (0, 0))
  else (0, 0)
def valR (l : List Int) (n : Int) : Int :=
  if n = 1 then rd l 0 else if n = 2 then (rd l 0 - 192) * 64 + rd l 1 - 128 else if n = 3 then ((rd l 0 - 224) * 64 + rd l 1 - 128) * 64 + rd l 2 - 128 else (((rd l 0 - 240) * 64 + rd l 1 - 128) * 64 + rd l 2 - 128) * 64 + rd l 3 - 128
theorem cont_iff (x : Int) : cont x = true ↔ 128 ≤ x ∧ x < 192 := by unfold cont; simp
theorem size_one_iff (r : Int) : szU r = 1 ↔ 0 ≤ r ∧ r < 128 := by unfold szU; (repeat' split) <;> omega
theorem size_two_iff (r : Int) : szU r = 2 ↔ 128 ≤ r ∧ r < 2048 := by unfold szU; (repeat' split) <;> omega
theorem size_three_iff (r : Int) : szU r = 3 ↔ (2048 ≤ r ∧ r < 65536) ∧ ¬ (55296 ≤ r ∧ r < 57344) := by unfold szU; (repeat' split) <;> omega
theorem size_four_iff (r : Int) : szU r = 4 ↔ 65536 ≤ r ∧ r < 1114112 := by unfold szU; (repeat' split) <;> omega
theorem size_zero_iff (r : Int) : szU r = 0 ↔ r < 0 ∨ 1114111 < r ∨ (55296 ≤ r ∧ r < 57344) := by
  have h1 := size_one_iff r
  have h2 := size_two_iff r
  have h3 := size_three_iff r
  have h4 := size_four_iff r
  have h5 := size_range r
  omega
/-- What the bytes at the front must be, that a form of n bytes stands there. -/
def Is (l : List Int) (n : Nat) : Prop :=
  (n = 1 ∧ 1 ≤ l.length ∧ rd l 0 < 128) ∨
  (n = 2 ∧ 2 ≤ l.length ∧ 192 ≤ rd l 0 ∧ rd l 0 < 224 ∧ cont (rd l 1) = true ∧ szU (two l) = 2) ∨
  (n = 3 ∧ 3 ≤ l.length ∧ 224 ≤ rd l 0 ∧ rd l 0 < 240 ∧ cont (rd l 1) = true ∧ cont (rd l 2) = true ∧ szU (three l) = 3) ∨
  (n = 4 ∧ 4 ≤ l.length ∧ 240 ≤ rd l 0 ∧ rd l 0 < 248 ∧ cont (rd l 1) = true ∧ cont (rd l 2) = true ∧ cont (rd l 3) = true ∧ szU (four l) = 4)
def val (l : List Int) (n : Nat) : Int := if n = 1 then rd l 0 else if n = 2 then two l else if n = 3 then three l else four l
/-- The program's reader, by what stands there. -/
theorem nx_cases (l : List Int) : (∃ n : Nat, Is l n ∧ nx l = (val l n, (n : Int))) ∨ ((∀ n, ¬ Is l n) ∧ nx l = (0, 0)) := by
  unfold nx
  by_cases z : l.length = 0
  · right
    rw [if_pos z]
    refine ⟨fun n h => ?_, rfl⟩
    unfold Is at h
    omega
  rw [if_neg z]
  by_cases c1 : rd l 0 < 128
  · left
    rw [if_pos c1]
    exact ⟨1, .inl ⟨rfl, by omega, c1⟩, rfl⟩
  rw [if_neg c1]
  by_cases c2 : rd l 0 < 192
  · right
    rw [if_pos c2]
    refine ⟨fun n h => ?_, rfl⟩
    unfold Is at h
    omega
  rw [if_neg c2]
  by_cases c3 : rd l 0 < 224
  · rw [if_pos c3]
    split
    · rename_i h
      left
      exact ⟨2, .inr (.inl ⟨rfl, h.1, by omega, c3, h.2.1, h.2.2⟩), rfl⟩
    · rename_i h
      right
      refine ⟨fun n hn => ?_, rfl⟩
      rcases hn with hn | hn | hn | hn
      · omega
      · exact h ⟨hn.2.1, hn.2.2.2.2.1, hn.2.2.2.2.2⟩
      · omega
      · omega
  rw [if_neg c3]
  by_cases c4 : rd l 0 < 240
  · rw [if_pos c4]
    split
    · rename_i h
      left
      exact ⟨3, .inr (.inr (.inl ⟨rfl, h.1, by omega, c4, h.2.1, h.2.2.1, h.2.2.2⟩)), rfl⟩
    · rename_i h
      right
      refine ⟨fun n hn => ?_, rfl⟩
      rcases hn with hn | hn | hn | hn
      · omega
      · omega
      · exact h ⟨hn.2.1, hn.2.2.2.2.1, hn.2.2.2.2.2.1, hn.2.2.2.2.2.2⟩
      · omega
  rw [if_neg c4]
  by_cases c5 : rd l 0 < 248
  · rw [if_pos c5]
    split
    · rename_i h
      left
      exact ⟨4, .inr (.inr (.inr ⟨rfl, h.1, by omega, c5, h.2.1, h.2.2.1, h.2.2.2.1, h.2.2.2.2⟩)), rfl⟩
    · rename_i h
      right
      refine ⟨fun n hn => ?_, rfl⟩
      rcases hn with hn | hn | hn | hn
      · omega
      · omega
      · omega
      · exact h ⟨hn.2.1, hn.2.2.2.2.1, hn.2.2.2.2.2.1, hn.2.2.2.2.2.2.1, hn.2.2.2.2.2.2.2⟩
  rw [if_neg c5]
  right
  refine ⟨fun n h => ?_, rfl⟩
  unfold Is at h
  omega
theorem take_two (l : List Int) (h : 2 ≤ l.length) : l.take 2 = [rd l 0, rd l 1] := by
  match l, h with
  | a :: b :: _, _ => simp [rd]
theorem take_three (l : List Int) (h : 3 ≤ l.length) : l.take 3 = [rd l 0, rd l 1, rd l 2] := by
  match l, h with
  | a :: b :: c :: _, _ => simp [rd]
theorem take_four (l : List Int) (h : 4 ≤ l.length) : l.take 4 = [rd l 0, rd l 1, rd l 2, rd l 3] := by
  match l, h with
  | a :: b :: c :: d :: _, _ => simp [rd]
theorem take_one (l : List Int) (h : 1 ≤ l.length) : l.take 1 = [rd l 0] := by
  match l, h with
  | a :: _, _ => simp [rd]
/-- The document's test of n bytes at the front. -/
theorem is_iff (l : List Int) (hb : Bytes l) (n : Nat) (h1 : 1 ≤ n) (h4 : n ≤ 4) (hn : n ≤ l.length) :
    (szU (valR l n) = n ∧ form (valR l n) = l.take n) ↔ Is l n := by
  have b0 := rd_byte hb 0 (by omega)
  have e : ∀ j : Nat, (0 : Int) + (j : Int) = (j : Int) := fun j => by omega
  have hk : n = 1 ∨ n = 2 ∨ n = 3 ∨ n = 4 := by omega
  simp only [Int.natCast_zero] at b0
  rcases hk with rfl | rfl | rfl | rfl
  · rw [take_one l hn]
    simp only [valR, Is, Int.natCast_one, if_pos]
    constructor
    · rintro ⟨h, _⟩
      have := size_one h
      exact .inl ⟨trivial, hn, by omega⟩
    · intro h
      have h2 : rd l 0 < 128 := by omega
      have h3 : szU (rd l 0) = 1 := (size_one_iff _).mpr ⟨b0.1, h2⟩
      exact ⟨h3, by simp [form, h3]⟩
  · have b1 := rd_byte hb 1 (by omega)
    simp only [Int.natCast_one] at b1
    rw [take_two l hn]
    have hv : valR l (2 : Nat) = (rd l 0 - 192) * 64 + rd l 1 - 128 := rfl
    rw [hv]
    simp only [Is, two, cont_iff]
    generalize rd l 0 = x0 at *
    generalize rd l 1 = x1 at *
    constructor
    · rintro ⟨h, hf⟩
      have h' : szU ((x0 - 192) * 64 + x1 - 128) = 2 := h
      have hr := size_two h'
      simp only [form, h'] at hf
      simp at hf
      refine .inr (.inl ⟨trivial, hn, by omega, by omega, by omega, ?_⟩)
      rw [show x0 % 32 * 64 + x1 % 64 = (x0 - 192) * 64 + x1 - 128 by omega]
      exact h'
    · intro h
      have h2 : 192 ≤ x0 ∧ x0 < 224 ∧ (128 ≤ x1 ∧ x1 < 192) := by omega
      have h3 : szU (x0 % 32 * 64 + x1 % 64) = 2 := by
        rcases h with h | h | h | h
        · omega
        · exact h.2.2.2.2.2
        · omega
        · omega
      rw [show x0 % 32 * 64 + x1 % 64 = (x0 - 192) * 64 + x1 - 128 by omega] at h3
      refine ⟨h3, ?_⟩
      have hr := size_two h3
      simp only [form, h3]
      simp
      omega
  · have b1 := rd_byte hb 1 (by omega)
    have b2 := rd_byte hb 2 (by omega)
    simp only [Int.natCast_one] at b1
    rw [take_three l hn]
    have hv : valR l (3 : Nat) = ((rd l 0 - 224) * 64 + rd l 1 - 128) * 64 + rd l 2 - 128 := rfl
    rw [hv]
    simp only [Is, three, cont_iff]
    have b2' : 0 ≤ rd l 2 ∧ rd l 2 ≤ 255 := b2
    clear b2 hv
    generalize rd l 0 = x0 at *
    generalize rd l 1 = x1 at *
    generalize rd l 2 = x2 at *
    constructor
    · rintro ⟨h, hf⟩
      have h' : szU (((x0 - 224) * 64 + x1 - 128) * 64 + x2 - 128) = 3 := h
      have hr := size_three h'
      simp only [form, h'] at hf
      simp at hf
      refine .inr (.inr (.inl ⟨trivial, hn, by omega, by omega, by omega, by omega, ?_⟩))
      rw [show (x0 % 16 * 64 + x1 % 64) * 64 + x2 % 64 = ((x0 - 224) * 64 + x1 - 128) * 64 + x2 - 128 by omega]
      exact h'
    · intro h
      have h2 : 224 ≤ x0 ∧ x0 < 240 ∧ (128 ≤ x1 ∧ x1 < 192) ∧ (128 ≤ x2 ∧ x2 < 192) := by omega
      have h3 : szU ((x0 % 16 * 64 + x1 % 64) * 64 + x2 % 64) = 3 := by
        rcases h with h | h | h | h
        · omega
        · omega
        · exact h.2.2.2.2.2.2
        · omega
      rw [show (x0 % 16 * 64 + x1 % 64) * 64 + x2 % 64 = ((x0 - 224) * 64 + x1 - 128) * 64 + x2 - 128 by omega] at h3
      refine ⟨h3, ?_⟩
      have hr := size_three h3
      simp only [form, h3]
      simp
      omega
  · have b1 := rd_byte hb 1 (by omega)
    have b2 := rd_byte hb 2 (by omega)
    have b3 := rd_byte hb 3 (by omega)
    simp only [Int.natCast_one] at b1
    rw [take_four l hn]
    have hv : valR l (4 : Nat) = (((rd l 0 - 240) * 64 + rd l 1 - 128) * 64 + rd l 2 - 128) * 64 + rd l 3 - 128 := rfl
    rw [hv]
    simp only [Is, four, cont_iff]
    have b2' : 0 ≤ rd l 2 ∧ rd l 2 ≤ 255 := b2
    have b3' : 0 ≤ rd l 3 ∧ rd l 3 ≤ 255 := b3
    clear b2 b3 hv
    generalize rd l 0 = x0 at *
    generalize rd l 1 = x1 at *
    generalize rd l 2 = x2 at *
    generalize rd l 3 = x3 at *
    constructor
    · rintro ⟨h, hf⟩
      have h' : szU ((((x0 - 240) * 64 + x1 - 128) * 64 + x2 - 128) * 64 + x3 - 128) = 4 := h
      have hr := size_four h'
      simp only [form, h'] at hf
      simp at hf
      refine .inr (.inr (.inr ⟨trivial, hn, by omega, by omega, by omega, by omega, by omega, ?_⟩))
      rw [show ((x0 % 8 * 64 + x1 % 64) * 64 + x2 % 64) * 64 + x3 % 64 = (((x0 - 240) * 64 + x1 - 128) * 64 + x2 - 128) * 64 + x3 - 128 by omega]
      exact h'
    · intro h
      have h2 : 240 ≤ x0 ∧ x0 < 248 ∧ (128 ≤ x1 ∧ x1 < 192) ∧ (128 ≤ x2 ∧ x2 < 192) ∧ (128 ≤ x3 ∧ x3 < 192) := by omega
      have h3 : szU (((x0 % 8 * 64 + x1 % 64) * 64 + x2 % 64) * 64 + x3 % 64) = 4 := by
        rcases h with h | h | h | h
        · omega
        · omega
        · omega
        · exact h.2.2.2.2.2.2.2
      rw [show ((x0 % 8 * 64 + x1 % 64) * 64 + x2 % 64) * 64 + x3 % 64 = (((x0 - 240) * 64 + x1 - 128) * 64 + x2 - 128) * 64 + x3 - 128 by omega] at h3
      refine ⟨h3, ?_⟩
      have hr := size_four h3
      simp only [form, h3]
      simp
      omega
theorem is_val (l : List Int) (hb : Bytes l) (n : Nat) (h : Is l n) : valR l n = val l n := by
  have b0 : 1 ≤ l.length → 0 ≤ rd l 0 ∧ rd l 0 ≤ 255 := fun h => rd_byte hb 0 (by omega)
  have b1 : 2 ≤ l.length → 0 ≤ rd l 1 ∧ rd l 1 ≤ 255 := fun h => rd_byte hb 1 (by omega)
  have b2 : 3 ≤ l.length → 0 ≤ rd l 2 ∧ rd l 2 ≤ 255 := fun h => rd_byte hb 2 (by omega)
  have b3 : 4 ≤ l.length → 0 ≤ rd l 3 ∧ rd l 3 ≤ 255 := fun h => rd_byte hb 3 (by omega)
  unfold Is at h
  simp only [cont_iff] at h
  rcases h with ⟨rfl, h⟩ | ⟨rfl, h⟩ | ⟨rfl, h⟩ | ⟨rfl, h⟩
  · rfl
  · show (rd l 0 - 192) * 64 + rd l 1 - 128 = rd l 0 % 32 * 64 + rd l 1 % 64
    omega
  · show ((rd l 0 - 224) * 64 + rd l 1 - 128) * 64 + rd l 2 - 128 = (rd l 0 % 16 * 64 + rd l 1 % 64) * 64 + rd l 2 % 64
    omega
  · show (((rd l 0 - 240) * 64 + rd l 1 - 128) * 64 + rd l 2 - 128) * 64 + rd l 3 - 128 = ((rd l 0 % 8 * 64 + rd l 1 % 64) * 64 + rd l 2 % 64) * 64 + rd l 3 % 64
    omega
/-- At most one length fits. -/
theorem is_one {l : List Int} {m n : Nat} (h : Is l m) (h' : Is l n) : m = n := by
  unfold Is at h h'
  omega
theorem is_range {l : List Int} {n : Nat} (h : Is l n) : 1 ≤ n ∧ n ≤ 4 ∧ n ≤ l.length := by
  unfold Is at h
  omega
theorem Bytes.drop {l : List Int} (h : Bytes l) (n : Nat) : Bytes (l.drop n) := fun x hx => h x (List.mem_of_mem_drop hx)
theorem Bytes.take {l : List Int} (h : Bytes l) (n : Nat) : Bytes (l.take n) := fun x hx => h x (List.mem_of_mem_take hx)
theorem Bytes.form (r : Int) : Bytes (form r) := form_byte r
theorem nx_range {l : List Int} : 0 ≤ (nx l).2 ∧ ((nx l).2 ≠ 0 → 1 ≤ (nx l).2 ∧ (nx l).2 ≤ 4 ∧ (nx l).2 ≤ l.length) := by
  rcases nx_cases l with ⟨n, hn, he⟩ | ⟨_, he⟩
  · rw [he]
    have := is_range hn
    exact ⟨by simp, fun _ => ⟨by simp; omega, by simp; omega, by simp; omega⟩⟩
  · rw [he]; simp
/-! ### cuts -/
/-- The numbers of bytes behind acc; the first byte is number i; d: so many forms at the most. -/
def decR : Nat → List Int → List Int → Nat → List Int × Int × Int
  | 0, _, acc, _ => (acc, 0, 0)
  | d + 1, l, acc, i => if l = [] then (acc, 0, 0) else if (nx l).2 = 0 then ([], (i : Int), 10) else decR d (l.drop (nx l).2.toNat) (acc ++ [(nx l).1]) (i + (nx l).2.toNat)
/-- What bytes are decoded to. -/
def dec (l : List Int) : List Int × Int × Int := decR l.length l [] 0
def Gd (l : List Int) : Prop := ∀ r ∈ l, szU r ≠ 0
def forms (l : List Int) : List Int := l.flatMap form
theorem forms_cons (r : Int) (l : List Int) : forms (r :: l) = form r ++ forms l := by simp [forms]
theorem forms_byte (l : List Int) : Bytes (forms l) := by
  intro x hx
  simp only [forms, List.mem_flatMap] at hx
  obtain ⟨r, _, hr⟩ := hx
  exact form_byte r x hr
theorem nx_form (r : Int) (hr : szU r ≠ 0) (rest : List Int) (hb : Bytes rest) : nx (form r ++ rest) = (r, szU r) := by
  have hB : Bytes (form r ++ rest) := fun x hx => by
    rcases List.mem_append.mp hx with h | h
    · exact form_byte r x h
    · exact hb x h
  have hl := form_len r
  have h0 := size_range r
  obtain ⟨n, hn⟩ : ∃ n : Nat, szU r = n := ⟨(szU r).toNat, by omega⟩
  have hlen : (form r).length = n := by omega
  have hv : valR (form r ++ rest) n = r := by
    rcases h0 with h | h | h | h | h
    · exact absurd h hr
    · obtain rfl : n = 1 := by omega
      have e : form r = [r] := by simp [form, h]
      rw [e]; simp [valR, rd]
    · obtain rfl : n = 2 := by omega
      have e : form r = [192 + r / 64, 128 + r % 64] := by simp [form, h]
      rw [e]
      show (rd _ 0 - 192) * 64 + rd _ 1 - 128 = r
      simp [rd]; omega
    · obtain rfl : n = 3 := by omega
      have e : form r = [224 + r / 4096, 128 + r / 64 % 64, 128 + r % 64] := by simp [form, h]
      rw [e]
      show ((rd _ 0 - 224) * 64 + rd _ 1 - 128) * 64 + rd _ 2 - 128 = r
      simp [rd]; omega
    · obtain rfl : n = 4 := by omega
      have e : form r = [240 + r / 262144, 128 + r / 4096 % 64, 128 + r / 64 % 64, 128 + r % 64] := by simp [form, h]
      rw [e]
      show (((rd _ 0 - 240) * 64 + rd _ 1 - 128) * 64 + rd _ 2 - 128) * 64 + rd _ 3 - 128 = r
      simp [rd]; omega
  have hi : Is (form r ++ rest) n := by
    rw [← is_iff _ hB n (by omega) (by omega) (by simp; omega), hv]
    exact ⟨hn, by rw [List.take_left' hlen]⟩
  rcases nx_cases (form r ++ rest) with ⟨m, hm, he⟩ | ⟨hno, _⟩
  · obtain rfl := is_one hm hi
    rw [he, ← is_val _ hB m hm, hv, hn]
  · exact absurd hi (hno n)
theorem nx_back {l : List Int} (hb : Bytes l) (h : (nx l).2 ≠ 0) : szU (nx l).1 = (nx l).2 ∧ form (nx l).1 = l.take (nx l).2.toNat := by
  rcases nx_cases l with ⟨n, hn, he⟩ | ⟨_, he⟩
  · rw [he]
    have hr := is_range hn
    have := (is_iff l hb n (by omega) (by omega) (by omega)).mpr hn
    rw [is_val l hb n hn] at this
    simpa using this
  · rw [he] at h; simp at h
theorem form_ne {r : Int} (hr : szU r ≠ 0) (x : List Int) : ¬ form r ++ x = [] := by
  intro h
  have h1 := form_len r
  have := congrArg List.length h
  simp at this
  have h2 := size_range r
  have h3 := this.1
  rw [h3] at h1
  simp at h1
  omega
theorem dec_forms : ∀ (l : List Int) (d : Nat) (acc : List Int) (i : Nat), Gd l → l.length ≤ d → decR d (forms l) acc i = (acc ++ l, 0, 0) := by
  intro l
  induction l with
  | nil =>
    intro d acc i _ _
    cases d with
    | zero => simp [decR]
    | succ d => simp [decR, forms]
  | cons r l ih =>
    intro d acc i h hd
    obtain ⟨d, rfl⟩ : ∃ m, d = m + 1 := ⟨d - 1, by simp at hd; omega⟩
    have hr : szU r ≠ 0 := h r (by simp)
    have hl := form_len r
    have h0 := size_range r
    rw [forms_cons, decR, if_neg (form_ne hr _), nx_form r hr _ (forms_byte l)]
    simp only
    rw [if_neg hr, List.drop_left' (by omega), ih d _ _ (fun x hx => h x (by simp [hx])) (by simp at hd; omega)]
    simp
theorem forms_ge {l : List Int} (h : Gd l) : l.length ≤ (forms l).length := by
  induction l with
  | nil => simp
  | cons r l ih =>
    have hr : szU r ≠ 0 := h r (by simp)
    have h1 := form_len r
    have h2 := size_range r
    have h3 := ih (fun x hx => h x (by simp [hx]))
    rw [forms_cons]
    simp only [List.length_append, List.length_cons]
    omega
theorem dec_enc {l : List Int} (h : Gd l) : dec (forms l) = (l, 0, 0) := by
  unfold dec
  rw [dec_forms l _ [] 0 h (forms_ge h)]
  simp
/-- What is read is good, and is written so; or the bytes are no text. -/
theorem dec_cases : ∀ (d : Nat) (l acc : List Int) (i : Nat), Bytes l → l.length ≤ d → (∃ m, Gd m ∧ forms m = l ∧ decR d l acc i = (acc ++ m, 0, 0)) ∨ (∃ j : Nat, j < l.length ∧ decR d l acc i = ([], ((i + j : Nat) : Int), 10)) := by
  intro d
  induction d with
  | zero =>
    intro l acc i hb hl
    obtain rfl : l = [] := List.length_eq_zero_iff.mp (by omega)
    exact .inl ⟨[], fun r hr => by simp at hr, rfl, by simp [decR]⟩
  | succ d ih =>
    intro l acc i hb hl
    rw [decR]
    by_cases he : l = []
    · subst he
      exact .inl ⟨[], fun r hr => by simp at hr, rfl, by simp⟩
    · rw [if_neg he]
      have hpos : 0 < l.length := by
        cases l with
        | nil => exact absurd rfl he
        | cons _ _ => simp
      have hr := nx_range (l := l)
      by_cases hz : (nx l).2 = 0
      · rw [if_pos hz]
        exact .inr ⟨0, hpos, by simp⟩
      · rw [if_neg hz]
        have hr2 := hr.2 hz
        have hk := nx_back hb hz
        rcases ih (l.drop (nx l).2.toNat) (acc ++ [(nx l).1]) (i + (nx l).2.toNat) (hb.drop _) (by simp; omega) with ⟨m, h1, h2, h3⟩ | ⟨j, h1, h2⟩
        · left
          refine ⟨(nx l).1 :: m, ?_, ?_, ?_⟩
          · intro r hr
            rcases List.mem_cons.mp hr with rfl | hr
            · omega
            · exact h1 r hr
          · rw [forms_cons, hk.2, h2, List.take_append_drop]
          · rw [h3]; simp
        · right
          simp only [List.length_drop] at h1
          refine ⟨(nx l).2.toNat + j, by omega, ?_⟩
          rw [h2]
          simp only [Prod.mk.injEq, true_and, and_true]
          omega
theorem dec_split {l : List Int} (hb : Bytes l) : (∃ m, Gd m ∧ forms m = l ∧ dec l = (m, 0, 0)) ∨ (∃ j : Nat, j < l.length ∧ dec l = ([], (j : Int), 10)) := by
  rcases dec_cases l.length l [] 0 hb (Nat.le_refl _) with ⟨m, h1, h2, h3⟩ | ⟨j, h1, h2⟩
  · exact .inl ⟨m, h1, h2, by rw [dec, h3]; simp⟩
  · exact .inr ⟨j, h1, by rw [dec, h2]; simp⟩
end Go.Proofs.YtdpflafjfkooeaaGreatDoorG.Dec
namespace Go.Proofs.YtdpflafjfkooeaaGreatDoorG
open Go Go.RowKit Go.Proofs Go.Proofs.YtdpflafjfkooeaaGreatDoorG.Dec
set_option linter.unusedSimpArgs false
set_option linter.unusedVariables false
theorem tv_bs {l : List Int} {j : Nat} (h : j < l.length) : (List.map TV.v (bs l)).getD j .dead = .v (.raw (.int .u8 (l.getD j 0))) := by
  simp [bs, List.getD, List.getElem?_eq_getElem h]
theorem cut_bs (l : List Int) (h : Int) : cutSV 1 (bs l) 0 h = bs (l.take h.toNat) := by simp [cutSV, bs]
theorem cut_bsd (l : List Int) (a : Int) : cutSV 1 (bs l) a (l.length : Int) = bs (l.drop a.toNat) := by
  simp only [cutSV, bs, Nat.mul_one, ← List.map_drop, ← List.map_take]
  rw [List.take_of_length_le (by simp only [List.length_drop]; omega)]
/-- A reader's bytes. -/
abbrev rdr (xs : List Int) : List TV := [.v (.sl 1 (bs xs))]
abbrev r0 : X := .p (.one (.pr 0 0))
abbrev errno (n : Int) : Value := .iface 36 (.int .i64 n)
theorem DBE1 : type_of% (And.intro @List.length_map.{0,0} (And.intro @bs_len (And.intro @rn_len (And.intro @cut_bs (And.intro @cut_bsd (And.intro @Int.sub_zero @Int.toNat_natCast)))))) := ⟨@List.length_map.{0,0}, @bs_len, @rn_len, @cut_bs, @cut_bsd, @Int.sub_zero, @Int.toNat_natCast⟩
set_option maxRecDepth 10000 in
theorem take_ok (xs : List Int) (n : Int) (h0 : 0 ≤ n) (hl : xs.length ≤ 140000000000000) : CallB Tryz.prog 79 [(127, rdr xs)] [r0, i64 n] (if n ≤ xs.length then .ret (sl (bs (xs.take n.toNat))) [(127, rdr (xs.drop n.toNat))] else .pan (errno 20)) := by
  by_cases h : n ≤ xs.length
  · rw [if_pos h]
    refine fn_okB' T_ok (orc_ok _) mixed Tryz.func79 rfl (by kernel_rfl) (lv [[0, 1], [0, 1, 12], [0, 1], [0, 1, 5], [0, 5], [0, 4]]) 30 rfl (by simp) (by simp [Out.ok, X.all, PX.all, TV.isV, TV.lent]) ?_
    simp only [lentL, argsG, Nat.zero_add, Nat.reduceAdd, List.cons_append, List.nil_append]
    repeat' first
      | ((first
          | ((with_reducible refine vR_cons (by decide) ?_); generalize hk : KtR _ _ _ _ _ _ _ _ _ _ = k)
          | ((first
          | with_reducible refine vOps_cons' ?_) <;> generalize hk : Kt _ _ _ _ _ _ _ _ _ = k)) <;> (simp only [Tryz.f79, lv, E1, E2, E5, ET, T, mvB, bxB, sxB, rxB, fwd, fwds, inv, mOk, EB, simprocAttr, DBE1]; (try simp (disch := omega) only [wrap_in, Int.toNat_natCast, tv_rn, tv_bs]); subst hk))
      | with_reducible first | refine Kt_p ?_ | refine Kt_i (by kernel_rfl) ?_ | refine Kr_f (by kernel_rfl) ?_
      | (with_reducible refine Kr_t ?_; simp only [List.length_append, List.length_cons, List.length_nil, Nat.reduceAdd, Nat.reduceSub, List.drop_succ_cons, List.drop_zero])
      | with_reducible first | refine vR_nil ?_ | refine KtR_i (by kernel_rfl) ?_ | refine KrR_i (by kernel_rfl) ?_ | refine vR_skip (by decide) ?_
      | ((with_reducible refine vB_i ?_ ?_) <;> intro _ <;> (first | (exfalso; omega) | (exact absurd trivial ‹¬True›) | (try dsimp only [])))
      | ((with_reducible refine vOps_nil' ?_); refine Kr_i (by kernel_rfl) ?_; generalize hk : plain _ _ = G; simp only [lv, E3, E2, E5, rawX, deadX, EB, simprocAttr, DBE1] at hk; subst hk)
      | with_reducible refine vSeq_i ?_
      | with_reducible first | refine vRegion_i (by kernel_rfl) ?_ | refine Kv_i ?_
      | ((with_reducible apply vStrK_i); (focus (rfl; done)))
      | ((with_reducible refine imp_i ?_); intro _)
      | with_reducible first | refine Ks_n ?_ | refine Ks_r ?_ | refine Ks_e ?_ | refine Kl_e ?_ | refine Kx_n ?_ | refine Kl_r ?_ | refine vRet_i ?_ | refine vSkip_i ?_ | refine vExit_i ?_ | refine vBlock_i ?_ | refine Ks_p ?_ | refine Kl_p ?_ | refine blk_p ?_ | exact Kb_p | refine vGoto_i ?_ | refine vLabel_i ?_ | refine Ks_g ?_ | refine Kl_g ?_ | refine blk_g ?_ | refine jmp_g ?_ | refine jmp_n ?_ | refine jmp_r ?_ | refine nog_n ?_ | refine nog_r ?_ | refine blk_n ?_ | refine blk_r ?_ | refine blk_e ?_ | refine blk_o (by decide) ?_ | refine cp_t ?_ | refine cp_f ?_
      | ((with_reducible apply vCond_x); (focus (simp only [lv, E1, E2, E5, ET, T, mvB, bxB, sxB, rxB, fwd, fwds, inv, mOk, EB, simprocAttr, DBE1]; with_reducible first | exact Eq.refl (bo true) | exact Eq.refl (bo false))))
      | ((with_reducible refine And.intro ?_ ?_); (focus (try omega)))
    first | refine Kb_r ?_ | refine Kb_n ?_
    simp only [Tryz.f79, E4, E3, E2, E5, rawX, deadX, ET, T, EB, simprocAttr, DBE1]
    generalize hW : List.contains (wrs _) 0 = b
    obtain rfl : b = false := hW.symm.trans (by kernel_rfl)
    simp only [E4, E3, E2, E5, rawX, deadX, ET, T, EB, simprocAttr, DBE1]
  · rw [if_neg h]
    refine fn_okB' T_ok (orc_ok _) mixed Tryz.func79 rfl (by kernel_rfl) (lv [[0, 1], [0, 1, 12], [0, 1], [0, 1, 5], [0, 5], [0, 4]]) 30 rfl (by simp) trivial ?_
    simp only [lentL, argsG, Nat.zero_add, Nat.reduceAdd, List.cons_append, List.nil_append]
    repeat' first
      | ((first
          | ((with_reducible refine vR_cons (by decide) ?_); generalize hk : KtR _ _ _ _ _ _ _ _ _ _ = k)
          | ((first
          | with_reducible refine vOps_cons' ?_) <;> generalize hk : Kt _ _ _ _ _ _ _ _ _ = k)) <;> (simp only [Tryz.f79, lv, E1, E2, E5, ET, T, mvB, bxB, sxB, rxB, fwd, fwds, inv, mOk, EB, simprocAttr, DBE1]; (try simp (disch := omega) only [wrap_in, Int.toNat_natCast, tv_rn, tv_bs]); subst hk))
      | with_reducible first | refine Kt_p ?_ | refine Kt_i (by kernel_rfl) ?_ | refine Kr_f (by kernel_rfl) ?_
      | (with_reducible refine Kr_t ?_; simp only [List.length_append, List.length_cons, List.length_nil, Nat.reduceAdd, Nat.reduceSub, List.drop_succ_cons, List.drop_zero])
      | with_reducible first | refine vR_nil ?_ | refine KtR_i (by kernel_rfl) ?_ | refine KrR_i (by kernel_rfl) ?_ | refine vR_skip (by decide) ?_
      | ((with_reducible refine vB_i ?_ ?_) <;> intro _ <;> (first | (exfalso; omega) | (exact absurd trivial ‹¬True›) | (try dsimp only [])))
      | ((with_reducible refine vOps_nil' ?_); refine Kr_i (by kernel_rfl) ?_; generalize hk : plain _ _ = G; simp only [lv, E3, E2, E5, rawX, deadX, EB, simprocAttr, DBE1] at hk; subst hk)
      | with_reducible refine vSeq_i ?_
      | with_reducible first | refine vRegion_i (by kernel_rfl) ?_ | refine Kv_i ?_
      | ((with_reducible apply vStrK_i); (focus (rfl; done)))
      | ((with_reducible refine imp_i ?_); intro _)
      | with_reducible first | refine Ks_n ?_ | refine Ks_r ?_ | refine Ks_e ?_ | refine Kl_e ?_ | refine Kx_n ?_ | refine Kl_r ?_ | refine vRet_i ?_ | refine vSkip_i ?_ | refine vExit_i ?_ | refine vBlock_i ?_ | refine Ks_p ?_ | refine Kl_p ?_ | refine blk_p ?_ | exact Kb_p | refine vGoto_i ?_ | refine vLabel_i ?_ | refine Ks_g ?_ | refine Kl_g ?_ | refine blk_g ?_ | refine jmp_g ?_ | refine jmp_n ?_ | refine jmp_r ?_ | refine nog_n ?_ | refine nog_r ?_ | refine blk_n ?_ | refine blk_r ?_ | refine blk_e ?_ | refine blk_o (by decide) ?_ | refine cp_t ?_ | refine cp_f ?_
      | ((with_reducible apply vCond_x); (focus (simp only [lv, E1, E2, E5, ET, T, mvB, bxB, sxB, rxB, fwd, fwds, inv, mOk, EB, simprocAttr, DBE1]; with_reducible first | exact Eq.refl (bo true) | exact Eq.refl (bo false))))
      | ((with_reducible refine And.intro ?_ ?_); (focus (try omega)))
end Go.Proofs.YtdpflafjfkooeaaGreatDoorG
