/- YtdpflafjfkooeaaDoorZ14: a part of the proof, joined of its texts. -/
import Derived.Test.YtdpflafjfkooeaaDoorZ13
namespace Go.Proofs.YtdpflafjfkooeaaDoorG
open Go Go.RowKit Go.Proofs
set_option linter.unusedSimpArgs false
set_option linter.unusedVariables false
/-- Bytes. -/
def bs (l : List Int) : List SV := l.map fun n => .raw (.int .u8 n)
theorem bs_len (l : List Int) : (bs l).length = l.length := by simp [bs]
theorem bs_app (a b : List Int) : bs (a ++ b) = bs a ++ bs b := by simp [bs]
theorem bs_nil : bs [] = [] := rfl
def numB (n : Int) : List Int := [n / 16777216 % 256, n / 65536 % 256, n / 256 % 256, n % 256]
theorem bs_raw {l : List Int} {x : SV} (h : x ∈ bs l) : x.isRaw = true := by
  obtain ⟨n, _, rfl⟩ := List.mem_map.1 h; rfl
theorem rows_raw {ty e : Nat} {l : List Int} : ∀ r ∈ ([(ty, e, bs l)] : Rows), ∀ x ∈ r.2.2, x.isRaw = true := fun r hr x hx => by
  simp only [List.mem_singleton] at hr; subst hr; exact bs_raw hx
theorem u8w (n : Int) : IntKind.u8.wrap n = n % 256 := by simp [IntKind.wrap, IntKind.bits, IntKind.signed]
theorem fdv (n : Int) {k : Int} (h : 0 < k) : n.fdiv k = n / k := Int.fdiv_eq_ediv_of_nonneg _ (Int.le_of_lt h)
theorem sh24 (n : Int) : n.fdiv (2 ^ min 24 IntKind.i64.bits) = n / 16777216 := fdv n (by decide)
theorem sh16 (n : Int) : n.fdiv (2 ^ min 16 IntKind.i64.bits) = n / 65536 := fdv n (by decide)
theorem sh8 (n : Int) : n.fdiv (2 ^ min 8 IntKind.i64.bits) = n / 256 := fdv n (by decide)
set_option maxRecDepth 10000 in
theorem number_ok (b : List Int) (n : Int) (hb : b.length ≤ 140000000000000) : CallM Tryd.prog 30 (5, 1, bs b) [i64 n] (.p (.one (.sr 0))) [(5, 1, bs (b ++ numB n))] := by
  refine fn_okM' T_ok (orc_ok _) mixed Tryd.func30 rfl (by kernel_rfl) (lv [[0, 1], [4]]) 19 rfl (by simp) rfl ?_
  simp only [argsG, Nat.zero_add, Nat.reduceAdd]
  repeat' first
    | ((first
        | ((with_reducible refine vR_cons (by decide) ?_); generalize hk : KtR _ _ _ _ _ _ _ _ _ _ = k)
        | ((first
        | with_reducible refine vOps_cons' ?_) <;> generalize hk : Kt _ _ _ _ _ _ _ _ _ = k)) <;> (simp only [Tryd.f30, lv, E1, E2, E5, ET, T, orc_mv, noO_mv, mvB, orc_bx, noO_bx, bxB, orc_sx, noO_sx, sxB, fwd, fwds, inv, mOk, Int.toNat_natCast, Nat.div_one, Nat.mul_one, Int.reduceToNat, SB, List.not_mem_nil, ↓reduceIte, ne_eq, reduceCtorEq, Nat.reduceLT, Nat.reduceEqDiff, Nat.reduceAdd, Nat.reduceMul, Nat.reduceLeDiff, Nat.reduceDiv, Nat.reduceMod, Nat.reduceSub, Nat.reduceBEq, List.length_map, bs_len, rn_len]; (try simp (disch := omega) only [wrap_in, Int.toNat_natCast, tv_rn]); subst hk))
    | with_reducible first | refine Kt_p ?_ | refine Kt_i (by kernel_rfl) ?_ | refine Kr_f (by kernel_rfl) ?_
    | (with_reducible refine Kr_t ?_; simp only [List.length_append, List.length_cons, List.length_nil, Nat.reduceAdd, Nat.reduceSub, List.drop_succ_cons, List.drop_zero])
    | with_reducible first | refine vR_nil ?_ | refine KtR_i (by kernel_rfl) ?_ | refine KrR_i (by kernel_rfl) ?_ | refine vR_skip (by decide) ?_
    | ((with_reducible refine vB_i ?_ ?_) <;> intro _ <;> (first | (exfalso; omega) | (exact absurd trivial ‹¬True›) | (try dsimp only [])))
    | ((with_reducible refine vOps_nil' ?_); refine Kr_i (by kernel_rfl) ?_; generalize hk : plain _ _ = G; simp only [lv, E3, E2, E5, rawX, deadX, SB, List.not_mem_nil, ↓reduceIte, ne_eq, reduceCtorEq, Nat.reduceLT, Nat.reduceEqDiff, Nat.reduceAdd, Nat.reduceMul, Nat.reduceLeDiff, Nat.reduceDiv, Nat.reduceMod, Nat.reduceSub, Nat.reduceBEq, List.length_map, bs_len, rn_len] at hk; subst hk)
    | with_reducible refine vSeq_i ?_
    | with_reducible first | refine vRegion_i (by kernel_rfl) ?_ | refine Kv_i ?_
    | ((with_reducible apply vStrK_i); (focus (rfl; done)))
    | ((with_reducible refine imp_i ?_); intro _)
    | with_reducible first | refine Ks_n ?_ | refine Ks_r ?_ | refine Ks_e ?_ | refine Kl_e ?_ | refine Kx_n ?_ | refine Kl_r ?_ | refine vRet_i ?_ | refine vSkip_i ?_ | refine vExit_i ?_ | refine vBlock_i ?_ | refine Ks_p ?_ | refine Kl_p ?_ | refine blk_p ?_ | exact Kb_p | refine vGoto_i ?_ | refine vLabel_i ?_ | refine Ks_g ?_ | refine Kl_g ?_ | refine blk_g ?_ | refine jmp_g ?_ | refine jmp_n ?_ | refine jmp_r ?_ | refine nog_n ?_ | refine nog_r ?_ | refine blk_n ?_ | refine blk_r ?_ | refine blk_e ?_ | refine blk_o (by decide) ?_ | refine cp_t ?_ | refine cp_f ?_
    | ((with_reducible apply vCond_x); (focus (simp only [lv, E1, E2, E5, ET, T, orc_mv, noO_mv, mvB, orc_bx, noO_bx, bxB, orc_sx, noO_sx, sxB, fwd, fwds, inv, mOk, Int.toNat_natCast, Nat.div_one, Nat.mul_one, Int.reduceToNat, SB, List.not_mem_nil, ↓reduceIte, ne_eq, reduceCtorEq, Nat.reduceLT, Nat.reduceEqDiff, Nat.reduceAdd, Nat.reduceMul, Nat.reduceLeDiff, Nat.reduceDiv, Nat.reduceMod, Nat.reduceSub, Nat.reduceBEq, List.length_map, bs_len, rn_len]; with_reducible first | exact Eq.refl (bo true) | exact Eq.refl (bo false))))
    | ((with_reducible refine And.intro ?_ ?_); (focus (try omega)))
  all_goals try omega
  refine Kf_r ?_
  simp only [Tryd.f30, E4, E3, E2, E5, rawX, deadX, ET, T, SB, List.not_mem_nil, ↓reduceIte, ne_eq, reduceCtorEq, Nat.reduceLT, Nat.reduceEqDiff, Nat.reduceAdd, Nat.reduceMul, Nat.reduceLeDiff, Nat.reduceDiv, Nat.reduceMod, Nat.reduceSub, Nat.reduceBEq, List.length_map, bs_len, rn_len, sh24, sh16, sh8, u8w]
  simp [bs, numB]
set_option maxRecDepth 10000 in
theorem is_ok (n : Int) : CallOk Tryd.prog 28 [i64 n] (bo (decide (0 ≤ n ∧ n ≤ 2147483647))) [] true := by
  refine fn_ok' T_ok (orc_ok _) mixed Tryd.func28 rfl (by kernel_rfl) (lv [[0], [2]]) 9 rfl (by simp) rfl (by simp [X.all, PX.all, TV.rawR, SV.isRaw]) ?_
  simp only [argsG, Nat.zero_add, Nat.reduceAdd]
  repeat' first
    | ((first
        | ((with_reducible refine vR_cons (by decide) ?_); generalize hk : KtR _ _ _ _ _ _ _ _ _ _ = k)
        | ((first
        | with_reducible refine vOps_cons' ?_) <;> generalize hk : Kt _ _ _ _ _ _ _ _ _ = k)) <;> (simp only [Tryd.f28, lv, E1, E2, E5, ET, T, orc_mv, noO_mv, mvB, orc_bx, noO_bx, bxB, orc_sx, noO_sx, sxB, fwd, fwds, inv, mOk, Int.toNat_natCast, Nat.div_one, Nat.mul_one, Int.reduceToNat, SB, List.not_mem_nil, ↓reduceIte, ne_eq, reduceCtorEq, Nat.reduceLT, Nat.reduceEqDiff, Nat.reduceAdd, Nat.reduceMul, Nat.reduceLeDiff, Nat.reduceDiv, Nat.reduceMod, Nat.reduceSub, Nat.reduceBEq, List.length_map, bs_len, rn_len]; (try simp (disch := omega) only [wrap_in, Int.toNat_natCast, tv_rn]); subst hk))
    | with_reducible first | refine Kt_p ?_ | refine Kt_i (by kernel_rfl) ?_ | refine Kr_f (by kernel_rfl) ?_
    | (with_reducible refine Kr_t ?_; simp only [List.length_append, List.length_cons, List.length_nil, Nat.reduceAdd, Nat.reduceSub, List.drop_succ_cons, List.drop_zero])
    | with_reducible first | refine vR_nil ?_ | refine KtR_i (by kernel_rfl) ?_ | refine KrR_i (by kernel_rfl) ?_ | refine vR_skip (by decide) ?_
    | ((with_reducible refine vB_i ?_ ?_) <;> intro _ <;> (first | (exfalso; omega) | (exact absurd trivial ‹¬True›) | (try dsimp only [])))
    | ((with_reducible refine vOps_nil' ?_); refine Kr_i (by kernel_rfl) ?_; generalize hk : plain _ _ = G; simp only [lv, E3, E2, E5, rawX, deadX, SB, List.not_mem_nil, ↓reduceIte, ne_eq, reduceCtorEq, Nat.reduceLT, Nat.reduceEqDiff, Nat.reduceAdd, Nat.reduceMul, Nat.reduceLeDiff, Nat.reduceDiv, Nat.reduceMod, Nat.reduceSub, Nat.reduceBEq, List.length_map, bs_len, rn_len] at hk; subst hk)
    | with_reducible refine vSeq_i ?_
    | with_reducible first | refine vRegion_i (by kernel_rfl) ?_ | refine Kv_i ?_
    | ((with_reducible apply vStrK_i); (focus (rfl; done)))
    | ((with_reducible refine imp_i ?_); intro _)
    | with_reducible first | refine Ks_n ?_ | refine Ks_r ?_ | refine Ks_e ?_ | refine Kl_e ?_ | refine Kx_n ?_ | refine Kl_r ?_ | refine vRet_i ?_ | refine vSkip_i ?_ | refine vExit_i ?_ | refine vBlock_i ?_ | refine Ks_p ?_ | refine Kl_p ?_ | refine blk_p ?_ | exact Kb_p | refine vGoto_i ?_ | refine vLabel_i ?_ | refine Ks_g ?_ | refine Kl_g ?_ | refine blk_g ?_ | refine jmp_g ?_ | refine jmp_n ?_ | refine jmp_r ?_ | refine nog_n ?_ | refine nog_r ?_ | refine blk_n ?_ | refine blk_r ?_ | refine blk_e ?_ | refine blk_o (by decide) ?_ | refine cp_t ?_ | refine cp_f ?_
    | ((with_reducible apply vCond_x); (focus (simp only [lv, E1, E2, E5, ET, T, orc_mv, noO_mv, mvB, orc_bx, noO_bx, bxB, orc_sx, noO_sx, sxB, fwd, fwds, inv, mOk, Int.toNat_natCast, Nat.div_one, Nat.mul_one, Int.reduceToNat, SB, List.not_mem_nil, ↓reduceIte, ne_eq, reduceCtorEq, Nat.reduceLT, Nat.reduceEqDiff, Nat.reduceAdd, Nat.reduceMul, Nat.reduceLeDiff, Nat.reduceDiv, Nat.reduceMod, Nat.reduceSub, Nat.reduceBEq, List.length_map, bs_len, rn_len]; with_reducible first | exact Eq.refl (bo true) | exact Eq.refl (bo false))))
    | ((with_reducible refine And.intro ?_ ?_); (focus (try omega)))
  all_goals refine Kf_r ?_
  all_goals simp only [Tryd.f28, E4, E3, E2, E5, rawX, deadX, ET, T, SB, List.not_mem_nil, ↓reduceIte, ne_eq, reduceCtorEq, Nat.reduceLT, Nat.reduceEqDiff, Nat.reduceAdd, Nat.reduceMul, Nat.reduceLeDiff, Nat.reduceDiv, Nat.reduceMod, Nat.reduceSub, Nat.reduceBEq, List.length_map, bs_len, rn_len, X.p.injEq, X.tup.injEq, PX.one.injEq, PX.agg.injEq, TV.v.injEq, TV.sr.injEq, SV.raw.injEq, SV.sl.injEq, Value.bool.injEq, Value.int.injEq, List.cons.injEq, Prod.mk.injEq, true_and, and_true, and_self]
  all_goals (symm; simp only [decide_eq_true_eq, decide_eq_false_iff_not]; omega)
/-- A number's form. -/
def formF (r : Int) : List Int := if r < 128 then [r] else if r < 2048 then [192 + r / 64, 128 + r % 64] else if r < 65536 then [224 + r / 4096, 128 + r / 64 % 64, 128 + r % 64] else [240 + r / 262144, 128 + r / 4096 % 64, 128 + r / 64 % 64, 128 + r % 64]
theorem szU_1 {r : Int} (h : szU r = 1) : 0 ≤ r ∧ r < 128 := by
  unfold szU at h; (repeat' split at h) <;> omega
theorem szU_2 {r : Int} (h : szU r = 2) : 128 ≤ r ∧ r < 2048 := by
  unfold szU at h; (repeat' split at h) <;> omega
theorem szU_3 {r : Int} (h : szU r = 3) : 2048 ≤ r ∧ r < 65536 := by
  unfold szU at h; (repeat' split at h) <;> omega
theorem szU_4 {r : Int} (h : szU r = 4) : 65536 ≤ r ∧ r < 1114112 := by
  unfold szU at h; (repeat' split at h) <;> omega
theorem szU_le (r : Int) : 0 ≤ szU r ∧ szU r ≤ 4 := by unfold szU; (repeat' split) <;> omega
theorem form_1 {r : Int} (h : szU r = 1) : formF r = [r] := by have := szU_1 h; unfold formF; rw [if_pos this.2]
theorem form_2 {r : Int} (h : szU r = 2) : formF r = [192 + r / 64, 128 + r % 64] := by have := szU_2 h; unfold formF; rw [if_neg (by omega), if_pos this.2]
theorem form_3 {r : Int} (h : szU r = 3) : formF r = [224 + r / 4096, 128 + r / 64 % 64, 128 + r % 64] := by have := szU_3 h; unfold formF; rw [if_neg (by omega), if_neg (by omega), if_pos this.2]
theorem form_4 {r : Int} (h : szU r = 4) : formF r = [240 + r / 262144, 128 + r / 4096 % 64, 128 + r / 64 % 64, 128 + r % 64] := by have := szU_4 h; unfold formF; rw [if_neg (by omega), if_neg (by omega), if_neg (by omega)]
theorem form_len {r : Int} (h : szU r ≠ 0) : ((formF r).length : Int) = szU r := by
  have := szU_le r
  by_cases h1 : szU r = 1
  · rw [form_1 h1, h1]; rfl
  by_cases h2 : szU r = 2
  · rw [form_2 h2, h2]; rfl
  by_cases h3 : szU r = 3
  · rw [form_3 h3, h3]; rfl
  · have h4 : szU r = 4 := by omega
    rw [form_4 h4, h4]; rfl
theorem u8in {n : Int} (h0 : 0 ≤ n) (h1 : n < 256) : IntKind.u8.wrap n = n := by rw [u8w]; omega
end Go.Proofs.YtdpflafjfkooeaaDoorG
namespace Go.Proofs.YtdpflafjfkooeaaDoorG
open Go Go.RowKit Go.Proofs
set_option linter.unusedSimpArgs false
set_option linter.unusedVariables false
/-- A text's bytes. -/
def encF (l : List Int) : List Int := l.flatMap formF
theorem encF_app (a b : List Int) : encF (a ++ b) = encF a ++ encF b := by simp [encF]
theorem take_1 {l : List Int} {k : Nat} (h : k < l.length) : l.take (k + 1) = l.take k ++ [l.getD k 0] := by
  rw [List.take_add_one]; simp [List.getD, List.getElem?_eq_getElem h]
theorem encF_1 {l : List Int} {k : Nat} (h : k < l.length) : encF (l.take (k + 1)) = encF (l.take k) ++ formF (l.getD k 0) := by
  rw [take_1 h, encF_app]; simp [encF]
theorem form_le (r : Int) : (formF r).length ≤ 4 := by unfold formF; (repeat' split) <;> simp
theorem encF_le (l : List Int) : (encF l).length ≤ 4 * l.length := by
  induction l with
  | nil => simp [encF]
  | cons r l ih => have := form_le r; simp only [encF, List.flatMap_cons, List.length_append, List.length_cons] at ih ⊢; omega
set_option maxRecDepth 100000 in
theorem and63 {x : Int} (h0 : 0 ≤ x) (h1 : x < 256) : bitI .and .u8 x 63 = x % 64 := by
  have key : ∀ n : Fin 256, bitI .and .u8 (n.val : Int) 63 = (n.val : Int) % 64 := by decide
  obtain ⟨n, rfl⟩ := Int.eq_ofNat_of_zero_le h0
  exact key ⟨n, by omega⟩
theorem or128 {y : Int} (h0 : 0 ≤ y) (h1 : y < 64) : bitI .or .u8 128 y = 128 + y := by
  have key : ∀ n : Fin 64, bitI .or .u8 128 (n.val : Int) = 128 + (n.val : Int) := by decide
  obtain ⟨n, rfl⟩ := Int.eq_ofNat_of_zero_le h0
  exact key ⟨n, by omega⟩
theorem or192 {y : Int} (h0 : 0 ≤ y) (h1 : y < 32) : bitI .or .u8 192 y = 192 + y := by
  have key : ∀ n : Fin 32, bitI .or .u8 192 (n.val : Int) = 192 + (n.val : Int) := by decide
  obtain ⟨n, rfl⟩ := Int.eq_ofNat_of_zero_le h0
  exact key ⟨n, by omega⟩
theorem or224 {y : Int} (h0 : 0 ≤ y) (h1 : y < 16) : bitI .or .u8 224 y = 224 + y := by
  have key : ∀ n : Fin 16, bitI .or .u8 224 (n.val : Int) = 224 + (n.val : Int) := by decide
  obtain ⟨n, rfl⟩ := Int.eq_ofNat_of_zero_le h0
  exact key ⟨n, by omega⟩
theorem or240 {y : Int} (h0 : 0 ≤ y) (h1 : y < 8) : bitI .or .u8 240 y = 240 + y := by
  have key : ∀ n : Fin 8, bitI .or .u8 240 (n.val : Int) = 240 + (n.val : Int) := by decide
  obtain ⟨n, rfl⟩ := Int.eq_ofNat_of_zero_le h0
  exact key ⟨n, by omega⟩
theorem cont_b (x : Int) : bitI .or .u8 128 (bitI .and .u8 (IntKind.u8.wrap x) 63) = 128 + x % 64 := by
  rw [u8w, and63 (by omega) (by omega), or128 (by omega) (by omega)]; omega
theorem cont_c {r : Int} {c : Nat} (k : Int) (hk : (2 : Int) ^ min (6 * ((c : Int) - 1)).toNat IntKind.i32.bits = k) (h : 0 < k) : bitI .or .u8 128 (bitI .and .u8 (IntKind.u8.wrap (r.fdiv (2 ^ min (6 * ((c : Int) - 1)).toNat IntKind.i32.bits))) 63) = 128 + r / k % 64 := by rw [cont_b, hk, fdv _ h]
theorem shr6 (r : Int) : r.fdiv (2 ^ min 6 IntKind.i32.bits) = r / 64 := fdv r (by decide)
theorem shr12 (r : Int) : r.fdiv (2 ^ min 12 IntKind.i32.bits) = r / 4096 := fdv r (by decide)
theorem shr18 (r : Int) : r.fdiv (2 ^ min 18 IntKind.i32.bits) = r / 262144 := fdv r (by decide)
def encX (l : List Int) : X := .tup [.one (.sr 0), .one (.v (.raw (.int .i64 (if scal l then 0 else idxU l)))), .one (.v (.raw (.int .i64 (if scal l then 0 else 11))))]
def encR (l : List Int) : Rows := [(5, 1, bs (if scal l then encF l else []))]
set_option maxRecDepth 10000 in
set_option maxHeartbeats 4000000 in
theorem encode_ok (l : List Int) (h : R32s l) (hl : l.length ≤ 2000000) : CallOk Tryd.prog 29 [sl (rn l)] (encX l) (encR l) true := by
  refine fn_ok' T_ok (orc_ok _) mixed Tryd.func29 rfl (by kernel_rfl) (lv [[0], [0, 5], [5, 13, 14, 15], [5, 13, 14, 15, 16], [5, 6, 7, 13, 14, 15], [5, 6, 7, 8, 13, 14, 15], [5, 6, 7, 8, 13, 14, 15, 22], [5, 6, 7, 8, 13, 14, 15, 22, 23], [2, 3, 4], [5, 7, 8, 13, 14, 15, 22, 26], [5, 13, 14, 15], [5, 7, 8, 13, 14, 15, 22, 33], [5, 7, 8, 13, 14, 15], [5, 7, 8, 13, 14, 15, 22, 42], [5, 7, 8, 13, 14, 15], [5, 7, 8, 13, 14, 15, 51], [5, 7, 8, 13, 14, 15], [5, 7, 9, 13, 14, 15], [5, 7, 9, 13, 14, 15, 63], [5, 7, 9, 13, 14, 15], [5, 7, 9, 13, 14, 15], [5, 13, 14, 15], [2, 3, 4]]) 78 rfl (by simp) rfl (fun _ => ⟨rfl, rows_raw⟩) ?_
  simp only [argsG, Nat.zero_add, Nat.reduceAdd]
  repeat' first
    | ((first
        | ((with_reducible refine vR_cons (by decide) ?_); generalize hk : KtR _ _ _ _ _ _ _ _ _ _ = k)
        | ((first
        | with_reducible refine vOps_cons' ?_) <;> generalize hk : Kt _ _ _ _ _ _ _ _ _ = k)) <;> (simp only [Tryd.f29, lv, E1, E2, E5, ET, T, orc_mv, noO_mv, mvB, orc_bx, noO_bx, bxB, orc_sx, noO_sx, sxB, fwd, fwds, inv, mOk, Int.toNat_natCast, Nat.div_one, Nat.mul_one, Int.reduceToNat, SB, List.not_mem_nil, ↓reduceIte, ne_eq, reduceCtorEq, Nat.reduceLT, Nat.reduceEqDiff, Nat.reduceAdd, Nat.reduceMul, Nat.reduceLeDiff, Nat.reduceDiv, Nat.reduceMod, Nat.reduceSub, Nat.reduceBEq, List.length_map, bs_len, rn_len]; (try simp (disch := omega) only [wrap_in, Int.toNat_natCast, tv_rn]); subst hk))
    | with_reducible first | refine Kt_p ?_ | refine Kt_i (by kernel_rfl) ?_ | refine Kr_f (by kernel_rfl) ?_
    | (with_reducible refine Kr_t ?_; simp only [List.length_append, List.length_cons, List.length_nil, Nat.reduceAdd, Nat.reduceSub, List.drop_succ_cons, List.drop_zero])
    | with_reducible first | refine vR_nil ?_ | refine KtR_i (by kernel_rfl) ?_ | refine KrR_i (by kernel_rfl) ?_ | refine vR_skip (by decide) ?_
    | ((with_reducible refine vB_i ?_ ?_) <;> intro _ <;> (first | (exfalso; omega) | (exact absurd trivial ‹¬True›) | (try dsimp only [])))
    | ((with_reducible refine vOps_nil' ?_); refine Kr_i (by kernel_rfl) ?_; generalize hk : plain _ _ = G; simp only [lv, E3, E2, E5, rawX, deadX, SB, List.not_mem_nil, ↓reduceIte, ne_eq, reduceCtorEq, Nat.reduceLT, Nat.reduceEqDiff, Nat.reduceAdd, Nat.reduceMul, Nat.reduceLeDiff, Nat.reduceDiv, Nat.reduceMod, Nat.reduceSub, Nat.reduceBEq, List.length_map, bs_len, rn_len] at hk; subst hk)
    | with_reducible refine vSeq_i ?_
    | with_reducible first | refine vRegion_i (by kernel_rfl) ?_ | refine Kv_i ?_
    | ((with_reducible apply vStrK_i); (focus (rfl; done)))
    | ((with_reducible refine imp_i ?_); intro _)
    | with_reducible first | refine Ks_n ?_ | refine Ks_r ?_ | refine Ks_e ?_ | refine Kl_e ?_ | refine Kx_n ?_ | refine Kl_r ?_ | refine vRet_i ?_ | refine vSkip_i ?_ | refine vExit_i ?_ | refine vBlock_i ?_ | refine Ks_p ?_ | refine Kl_p ?_ | refine blk_p ?_ | exact Kb_p | refine vGoto_i ?_ | refine vLabel_i ?_ | refine Ks_g ?_ | refine Kl_g ?_ | refine blk_g ?_ | refine jmp_g ?_ | refine jmp_n ?_ | refine jmp_r ?_ | refine nog_n ?_ | refine nog_r ?_ | refine blk_n ?_ | refine blk_r ?_ | refine blk_e ?_ | refine blk_o (by decide) ?_ | refine cp_t ?_ | refine cp_f ?_
    | ((with_reducible apply vCond_x); (focus (simp only [lv, E1, E2, E5, ET, T, orc_mv, noO_mv, mvB, orc_bx, noO_bx, bxB, orc_sx, noO_sx, sxB, fwd, fwds, inv, mOk, Int.toNat_natCast, Nat.div_one, Nat.mul_one, Int.reduceToNat, SB, List.not_mem_nil, ↓reduceIte, ne_eq, reduceCtorEq, Nat.reduceLT, Nat.reduceEqDiff, Nat.reduceAdd, Nat.reduceMul, Nat.reduceLeDiff, Nat.reduceDiv, Nat.reduceMod, Nat.reduceSub, Nat.reduceBEq, List.length_map, bs_len, rn_len]; with_reducible first | exact Eq.refl (bo true) | exact Eq.refl (bo false))))
    | ((with_reducible refine And.intro ?_ ?_); (focus (try omega)))
  refine vLoop_s (fun k : Nat => [(.t 5, .t (.p (.one (.sr 0)))), (.t 13, .t (sl (rn l))), (.t 14, .t (i64 l.length)), (.t 15, .t (i64 k)), (.row 0, .row 5 1 (bs (encF (l.take k))))]) (fun k => k ≤ l.length ∧ ∀ i, i < k → szU (l.getD i 0) ≠ 0) (fun k => l.length - k) 0 ⟨by omega, by omega⟩ rfl ?_
  rintro k ⟨hk, hlt⟩
  have hbl : (encF (l.take k)).length ≤ 4 * k := by have := encF_le (l.take k); rw [List.length_take] at this; omega
  repeat' first
    | ((first
        | ((with_reducible refine vR_cons (by decide) ?_); generalize hk : KtR _ _ _ _ _ _ _ _ _ _ = k)
        | ((first
        | with_reducible refine vOps_cons' ?_
        | ((with_reducible apply orc_i); (focus (exact size_ok _ (h.at (by omega)); done)))) <;> generalize hk : Kt _ _ _ _ _ _ _ _ _ = k)) <;> (simp only [Tryd.f29, lv, E1, E2, E5, ET, T, orc_mv, noO_mv, mvB, orc_bx, noO_bx, bxB, orc_sx, noO_sx, sxB, fwd, fwds, inv, mOk, Int.toNat_natCast, Nat.div_one, Nat.mul_one, Int.reduceToNat, SB, List.not_mem_nil, ↓reduceIte, ne_eq, reduceCtorEq, Nat.reduceLT, Nat.reduceEqDiff, Nat.reduceAdd, Nat.reduceMul, Nat.reduceLeDiff, Nat.reduceDiv, Nat.reduceMod, Nat.reduceSub, Nat.reduceBEq, List.length_map, bs_len, rn_len]; (try simp (disch := omega) only [wrap_in, Int.toNat_natCast, tv_rn]); subst hk))
    | with_reducible first | refine Kt_p ?_ | refine Kt_i (by kernel_rfl) ?_ | refine Kr_f (by kernel_rfl) ?_
    | (with_reducible refine Kr_t ?_; simp only [List.length_append, List.length_cons, List.length_nil, Nat.reduceAdd, Nat.reduceSub, List.drop_succ_cons, List.drop_zero])
    | with_reducible first | refine vR_nil ?_ | refine KtR_i (by kernel_rfl) ?_ | refine KrR_i (by kernel_rfl) ?_ | refine vR_skip (by decide) ?_
    | ((with_reducible refine vB_i ?_ ?_) <;> intro _ <;> (first | (exfalso; omega) | (exact absurd trivial ‹¬True›) | (try dsimp only [])))
    | ((with_reducible refine vOps_nil' ?_); refine Kr_i (by kernel_rfl) ?_; generalize hk : plain _ _ = G; simp only [lv, E3, E2, E5, rawX, deadX, SB, List.not_mem_nil, ↓reduceIte, ne_eq, reduceCtorEq, Nat.reduceLT, Nat.reduceEqDiff, Nat.reduceAdd, Nat.reduceMul, Nat.reduceLeDiff, Nat.reduceDiv, Nat.reduceMod, Nat.reduceSub, Nat.reduceBEq, List.length_map, bs_len, rn_len] at hk; subst hk)
    | with_reducible refine vSeq_i ?_
    | with_reducible first | refine vRegion_i (by kernel_rfl) ?_ | refine Kv_i ?_
    | ((with_reducible apply vStrK_i); (focus (rfl; done)))
    | ((with_reducible refine imp_i ?_); intro _)
    | with_reducible first | refine Ks_n ?_ | refine Ks_r ?_ | refine Ks_e ?_ | refine Kl_e ?_ | refine Kx_n ?_ | refine Kl_r ?_ | refine vRet_i ?_ | refine vSkip_i ?_ | refine vExit_i ?_ | refine vBlock_i ?_ | refine Ks_p ?_ | refine Kl_p ?_ | refine blk_p ?_ | exact Kb_p | refine vGoto_i ?_ | refine vLabel_i ?_ | refine Ks_g ?_ | refine Kl_g ?_ | refine blk_g ?_ | refine jmp_g ?_ | refine jmp_n ?_ | refine jmp_r ?_ | refine nog_n ?_ | refine nog_r ?_ | refine blk_n ?_ | refine blk_r ?_ | refine blk_e ?_ | refine blk_o (by decide) ?_ | refine cp_t ?_ | refine cp_f ?_
    | ((with_reducible apply vCond_x); (focus (simp only [lv, E1, E2, E5, ET, T, orc_mv, noO_mv, mvB, orc_bx, noO_bx, bxB, orc_sx, noO_sx, sxB, fwd, fwds, inv, mOk, Int.toNat_natCast, Nat.div_one, Nat.mul_one, Int.reduceToNat, SB, List.not_mem_nil, ↓reduceIte, ne_eq, reduceCtorEq, Nat.reduceLT, Nat.reduceEqDiff, Nat.reduceAdd, Nat.reduceMul, Nat.reduceLeDiff, Nat.reduceDiv, Nat.reduceMod, Nat.reduceSub, Nat.reduceBEq, List.length_map, bs_len, rn_len]; with_reducible first | exact Eq.refl (bo true) | exact Eq.refl (bo false))))
    | ((with_reducible refine And.intro ?_ ?_); (focus (try omega)))
  all_goals try omega
  · rename_i h1 h2
    have hns : ¬ scal l := fun hs => hs k (by omega) h2
    refine Kf_r ?_
    simp only [Tryd.f29, E4, E3, E2, E5, rawX, deadX, ET, T, SB, List.not_mem_nil, ↓reduceIte, ne_eq, reduceCtorEq, Nat.reduceLT, Nat.reduceEqDiff, Nat.reduceAdd, Nat.reduceMul, Nat.reduceLeDiff, Nat.reduceDiv, Nat.reduceMod, Nat.reduceSub, Nat.reduceBEq, List.length_map, bs_len, rn_len, encX, encR, if_neg hns, idxU_at hlt (by omega) h2, bs_nil]
  · rename_i h1 h2 h3
    refine Kl_n ⟨k + 1, ⟨by omega, fun i hi => by rcases Nat.lt_or_eq_of_le (Nat.le_of_lt_succ hi) with q | q; exact hlt i q; exact q ▸ h2⟩, by omega, ?_⟩
    have hr := szU_1 h3
    rw [encF_1 (by omega), form_1 h3, bs_app, u8in (by omega) (by omega)]
    simp only [Int.natCast_add, Int.natCast_one]
    rfl
  · have hz : szU (l.getD k 0) = 2 := by assumption
    have hr := szU_2 hz
    rw [shr6, u8in (by omega) (by omega), or192 (by omega) (by omega)]
    refine vLoop_s (fun c : Nat => [(.t 5, .t (.p (.one (.sr 0)))), (.t 7, .t (i32 (l.getD k 0))), (.t 9, .t (i64 ((c : Int) - 1))), (.t 13, .t (sl (rn l))), (.t 14, .t (i64 l.length)), (.t 15, .t (i64 k)), (.row 0, .row 5 1 (bs (encF (l.take k)) ++ bs ((formF (l.getD k 0)).take (2 - c))))]) (fun c => c ≤ 1) (fun c => c) 1 (by omega) (by rw [hz, form_2 hz]; rfl) ?_
    intro c hc
    repeat' first
      | ((first
          | ((with_reducible refine vR_cons (by decide) ?_); generalize hk : KtR _ _ _ _ _ _ _ _ _ _ = k)
          | ((first
          | with_reducible refine vOps_cons' ?_) <;> generalize hk : Kt _ _ _ _ _ _ _ _ _ = k)) <;> (simp only [Tryd.f29, lv, E1, E2, E5, ET, T, orc_mv, noO_mv, mvB, orc_bx, noO_bx, bxB, orc_sx, noO_sx, sxB, fwd, fwds, inv, mOk, Int.toNat_natCast, Nat.div_one, Nat.mul_one, Int.reduceToNat, SB, List.not_mem_nil, ↓reduceIte, ne_eq, reduceCtorEq, Nat.reduceLT, Nat.reduceEqDiff, Nat.reduceAdd, Nat.reduceMul, Nat.reduceLeDiff, Nat.reduceDiv, Nat.reduceMod, Nat.reduceSub, Nat.reduceBEq, List.length_map, bs_len, rn_len]; (try simp (disch := omega) only [wrap_in, Int.toNat_natCast, tv_rn]); subst hk))
      | with_reducible first | refine Kt_p ?_ | refine Kt_i (by kernel_rfl) ?_ | refine Kr_f (by kernel_rfl) ?_
      | (with_reducible refine Kr_t ?_; simp only [List.length_append, List.length_cons, List.length_nil, Nat.reduceAdd, Nat.reduceSub, List.drop_succ_cons, List.drop_zero])
      | with_reducible first | refine vR_nil ?_ | refine KtR_i (by kernel_rfl) ?_ | refine KrR_i (by kernel_rfl) ?_ | refine vR_skip (by decide) ?_
      | ((with_reducible refine vB_i ?_ ?_) <;> intro _ <;> (first | (exfalso; omega) | (exact absurd trivial ‹¬True›) | (try dsimp only [])))
      | ((with_reducible refine vOps_nil' ?_); refine Kr_i (by kernel_rfl) ?_; generalize hk : plain _ _ = G; simp only [lv, E3, E2, E5, rawX, deadX, SB, List.not_mem_nil, ↓reduceIte, ne_eq, reduceCtorEq, Nat.reduceLT, Nat.reduceEqDiff, Nat.reduceAdd, Nat.reduceMul, Nat.reduceLeDiff, Nat.reduceDiv, Nat.reduceMod, Nat.reduceSub, Nat.reduceBEq, List.length_map, bs_len, rn_len] at hk; subst hk)
      | with_reducible refine vSeq_i ?_
      | with_reducible first | refine vRegion_i (by kernel_rfl) ?_ | refine Kv_i ?_
      | ((with_reducible apply vStrK_i); (focus (rfl; done)))
      | ((with_reducible refine imp_i ?_); intro _)
      | with_reducible first | refine Ks_n ?_ | refine Ks_r ?_ | refine Ks_e ?_ | refine Kl_e ?_ | refine Kx_n ?_ | refine Kl_r ?_ | refine vRet_i ?_ | refine vSkip_i ?_ | refine vExit_i ?_ | refine vBlock_i ?_ | refine Ks_p ?_ | refine Kl_p ?_ | refine blk_p ?_ | exact Kb_p | refine vGoto_i ?_ | refine vLabel_i ?_ | refine Ks_g ?_ | refine Kl_g ?_ | refine blk_g ?_ | refine jmp_g ?_ | refine jmp_n ?_ | refine jmp_r ?_ | refine nog_n ?_ | refine nog_r ?_ | refine blk_n ?_ | refine blk_r ?_ | refine blk_e ?_ | refine blk_o (by decide) ?_ | refine cp_t ?_ | refine cp_f ?_
      | ((with_reducible apply vCond_x); (focus (simp only [lv, E1, E2, E5, ET, T, orc_mv, noO_mv, mvB, orc_bx, noO_bx, bxB, orc_sx, noO_sx, sxB, fwd, fwds, inv, mOk, Int.toNat_natCast, Nat.div_one, Nat.mul_one, Int.reduceToNat, SB, List.not_mem_nil, ↓reduceIte, ne_eq, reduceCtorEq, Nat.reduceLT, Nat.reduceEqDiff, Nat.reduceAdd, Nat.reduceMul, Nat.reduceLeDiff, Nat.reduceDiv, Nat.reduceMod, Nat.reduceSub, Nat.reduceBEq, List.length_map, bs_len, rn_len]; with_reducible first | exact Eq.refl (bo true) | exact Eq.refl (bo false))))
      | ((with_reducible refine And.intro ?_ ?_); (focus (try omega)))
    all_goals try (simp only [cnt, List.length_append, List.length_cons, List.length_nil, bs_len, List.length_take]; omega)
    · have hc1 : 1 ≤ c := by omega
      refine Kl_n ⟨c - 1, by omega, by omega, ?_⟩
      have e9 : ((c - 1 : Nat) : Int) - 1 = (c : Int) - 1 - 1 := by omega
      rw [e9, List.append_assoc]
      have eb : bs ((formF (l.getD k 0)).take (2 - c)) ++ [SV.raw (.int .u8 (bitI .or .u8 128 (bitI .and .u8 (IntKind.u8.wrap ((l.getD k 0).fdiv (2 ^ min (6 * ((c : Int) - 1)).toNat IntKind.i32.bits))) 63)))] = bs ((formF (l.getD k 0)).take (2 - (c - 1))) := by
        have : c = 1 := by omega
        subst this
        · rw [cont_c 1 rfl (by decide), Int.ediv_one, form_2 hz]; rfl
      rw [eb]
    · have hc0 : c = 0 := by omega
      subst hc0
      refine Kl_n ⟨k + 1, ⟨by omega, fun i hi => by rcases Nat.lt_or_eq_of_le (Nat.le_of_lt_succ hi) with q | q; exact hlt i q; rw [q, hz]; decide⟩, by omega, ?_⟩
      have eT : (formF (l.getD k 0)).take (2 - 0) = formF (l.getD k 0) := List.take_of_length_le (by rw [form_2 hz]; simp)
      rw [encF_1 (by omega), bs_app, eT]
      simp only [Int.natCast_add, Int.natCast_one]
  · have hz : szU (l.getD k 0) = 3 := by assumption
    have hr := szU_3 hz
    rw [shr12, u8in (by omega) (by omega), or224 (by omega) (by omega)]
    refine vLoop_s (fun c : Nat => [(.t 5, .t (.p (.one (.sr 0)))), (.t 7, .t (i32 (l.getD k 0))), (.t 9, .t (i64 ((c : Int) - 1))), (.t 13, .t (sl (rn l))), (.t 14, .t (i64 l.length)), (.t 15, .t (i64 k)), (.row 0, .row 5 1 (bs (encF (l.take k)) ++ bs ((formF (l.getD k 0)).take (3 - c))))]) (fun c => c ≤ 2) (fun c => c) 2 (by omega) (by rw [hz, form_3 hz]; rfl) ?_
    intro c hc
    repeat' first
      | ((first
          | ((with_reducible refine vR_cons (by decide) ?_); generalize hk : KtR _ _ _ _ _ _ _ _ _ _ = k)
          | ((first
          | with_reducible refine vOps_cons' ?_) <;> generalize hk : Kt _ _ _ _ _ _ _ _ _ = k)) <;> (simp only [Tryd.f29, lv, E1, E2, E5, ET, T, orc_mv, noO_mv, mvB, orc_bx, noO_bx, bxB, orc_sx, noO_sx, sxB, fwd, fwds, inv, mOk, Int.toNat_natCast, Nat.div_one, Nat.mul_one, Int.reduceToNat, SB, List.not_mem_nil, ↓reduceIte, ne_eq, reduceCtorEq, Nat.reduceLT, Nat.reduceEqDiff, Nat.reduceAdd, Nat.reduceMul, Nat.reduceLeDiff, Nat.reduceDiv, Nat.reduceMod, Nat.reduceSub, Nat.reduceBEq, List.length_map, bs_len, rn_len]; (try simp (disch := omega) only [wrap_in, Int.toNat_natCast, tv_rn]); subst hk))
      | with_reducible first | refine Kt_p ?_ | refine Kt_i (by kernel_rfl) ?_ | refine Kr_f (by kernel_rfl) ?_
      | (with_reducible refine Kr_t ?_; simp only [List.length_append, List.length_cons, List.length_nil, Nat.reduceAdd, Nat.reduceSub, List.drop_succ_cons, List.drop_zero])
      | with_reducible first | refine vR_nil ?_ | refine KtR_i (by kernel_rfl) ?_ | refine KrR_i (by kernel_rfl) ?_ | refine vR_skip (by decide) ?_
      | ((with_reducible refine vB_i ?_ ?_) <;> intro _ <;> (first | (exfalso; omega) | (exact absurd trivial ‹¬True›) | (try dsimp only [])))
      | ((with_reducible refine vOps_nil' ?_); refine Kr_i (by kernel_rfl) ?_; generalize hk : plain _ _ = G; simp only [lv, E3, E2, E5, rawX, deadX, SB, List.not_mem_nil, ↓reduceIte, ne_eq, reduceCtorEq, Nat.reduceLT, Nat.reduceEqDiff, Nat.reduceAdd, Nat.reduceMul, Nat.reduceLeDiff, Nat.reduceDiv, Nat.reduceMod, Nat.reduceSub, Nat.reduceBEq, List.length_map, bs_len, rn_len] at hk; subst hk)
      | with_reducible refine vSeq_i ?_
      | with_reducible first | refine vRegion_i (by kernel_rfl) ?_ | refine Kv_i ?_
      | ((with_reducible apply vStrK_i); (focus (rfl; done)))
      | ((with_reducible refine imp_i ?_); intro _)
      | with_reducible first | refine Ks_n ?_ | refine Ks_r ?_ | refine Ks_e ?_ | refine Kl_e ?_ | refine Kx_n ?_ | refine Kl_r ?_ | refine vRet_i ?_ | refine vSkip_i ?_ | refine vExit_i ?_ | refine vBlock_i ?_ | refine Ks_p ?_ | refine Kl_p ?_ | refine blk_p ?_ | exact Kb_p | refine vGoto_i ?_ | refine vLabel_i ?_ | refine Ks_g ?_ | refine Kl_g ?_ | refine blk_g ?_ | refine jmp_g ?_ | refine jmp_n ?_ | refine jmp_r ?_ | refine nog_n ?_ | refine nog_r ?_ | refine blk_n ?_ | refine blk_r ?_ | refine blk_e ?_ | refine blk_o (by decide) ?_ | refine cp_t ?_ | refine cp_f ?_
      | ((with_reducible apply vCond_x); (focus (simp only [lv, E1, E2, E5, ET, T, orc_mv, noO_mv, mvB, orc_bx, noO_bx, bxB, orc_sx, noO_sx, sxB, fwd, fwds, inv, mOk, Int.toNat_natCast, Nat.div_one, Nat.mul_one, Int.reduceToNat, SB, List.not_mem_nil, ↓reduceIte, ne_eq, reduceCtorEq, Nat.reduceLT, Nat.reduceEqDiff, Nat.reduceAdd, Nat.reduceMul, Nat.reduceLeDiff, Nat.reduceDiv, Nat.reduceMod, Nat.reduceSub, Nat.reduceBEq, List.length_map, bs_len, rn_len]; with_reducible first | exact Eq.refl (bo true) | exact Eq.refl (bo false))))
      | ((with_reducible refine And.intro ?_ ?_); (focus (try omega)))
    all_goals try (simp only [cnt, List.length_append, List.length_cons, List.length_nil, bs_len, List.length_take]; omega)
    · have hc1 : 1 ≤ c := by omega
      refine Kl_n ⟨c - 1, by omega, by omega, ?_⟩
      have e9 : ((c - 1 : Nat) : Int) - 1 = (c : Int) - 1 - 1 := by omega
      rw [e9, List.append_assoc]
      have eb : bs ((formF (l.getD k 0)).take (3 - c)) ++ [SV.raw (.int .u8 (bitI .or .u8 128 (bitI .and .u8 (IntKind.u8.wrap ((l.getD k 0).fdiv (2 ^ min (6 * ((c : Int) - 1)).toNat IntKind.i32.bits))) 63)))] = bs ((formF (l.getD k 0)).take (3 - (c - 1))) := by
        rcases (by omega : c = 1 ∨ c = 2) with rfl | rfl
        · rw [cont_c 1 rfl (by decide), Int.ediv_one, form_3 hz]; rfl
        · rw [cont_c 64 rfl (by decide), form_3 hz]; rfl
      rw [eb]
    · have hc0 : c = 0 := by omega
      subst hc0
      refine Kl_n ⟨k + 1, ⟨by omega, fun i hi => by rcases Nat.lt_or_eq_of_le (Nat.le_of_lt_succ hi) with q | q; exact hlt i q; rw [q, hz]; decide⟩, by omega, ?_⟩
      have eT : (formF (l.getD k 0)).take (3 - 0) = formF (l.getD k 0) := List.take_of_length_le (by rw [form_3 hz]; simp)
      rw [encF_1 (by omega), bs_app, eT]
      simp only [Int.natCast_add, Int.natCast_one]
  · have hz : szU (l.getD k 0) = 4 := by assumption
    have hr := szU_4 hz
    rw [shr18, u8in (by omega) (by omega), or240 (by omega) (by omega)]
    refine vLoop_s (fun c : Nat => [(.t 5, .t (.p (.one (.sr 0)))), (.t 7, .t (i32 (l.getD k 0))), (.t 9, .t (i64 ((c : Int) - 1))), (.t 13, .t (sl (rn l))), (.t 14, .t (i64 l.length)), (.t 15, .t (i64 k)), (.row 0, .row 5 1 (bs (encF (l.take k)) ++ bs ((formF (l.getD k 0)).take (4 - c))))]) (fun c => c ≤ 3) (fun c => c) 3 (by omega) (by rw [hz, form_4 hz]; rfl) ?_
    intro c hc
    repeat' first
      | ((first
          | ((with_reducible refine vR_cons (by decide) ?_); generalize hk : KtR _ _ _ _ _ _ _ _ _ _ = k)
          | ((first
          | with_reducible refine vOps_cons' ?_) <;> generalize hk : Kt _ _ _ _ _ _ _ _ _ = k)) <;> (simp only [Tryd.f29, lv, E1, E2, E5, ET, T, orc_mv, noO_mv, mvB, orc_bx, noO_bx, bxB, orc_sx, noO_sx, sxB, fwd, fwds, inv, mOk, Int.toNat_natCast, Nat.div_one, Nat.mul_one, Int.reduceToNat, SB, List.not_mem_nil, ↓reduceIte, ne_eq, reduceCtorEq, Nat.reduceLT, Nat.reduceEqDiff, Nat.reduceAdd, Nat.reduceMul, Nat.reduceLeDiff, Nat.reduceDiv, Nat.reduceMod, Nat.reduceSub, Nat.reduceBEq, List.length_map, bs_len, rn_len]; (try simp (disch := omega) only [wrap_in, Int.toNat_natCast, tv_rn]); subst hk))
      | with_reducible first | refine Kt_p ?_ | refine Kt_i (by kernel_rfl) ?_ | refine Kr_f (by kernel_rfl) ?_
      | (with_reducible refine Kr_t ?_; simp only [List.length_append, List.length_cons, List.length_nil, Nat.reduceAdd, Nat.reduceSub, List.drop_succ_cons, List.drop_zero])
      | with_reducible first | refine vR_nil ?_ | refine KtR_i (by kernel_rfl) ?_ | refine KrR_i (by kernel_rfl) ?_ | refine vR_skip (by decide) ?_
      | ((with_reducible refine vB_i ?_ ?_) <;> intro _ <;> (first | (exfalso; omega) | (exact absurd trivial ‹¬True›) | (try dsimp only [])))
      | ((with_reducible refine vOps_nil' ?_); refine Kr_i (by kernel_rfl) ?_; generalize hk : plain _ _ = G; simp only [lv, E3, E2, E5, rawX, deadX, SB, List.not_mem_nil, ↓reduceIte, ne_eq, reduceCtorEq, Nat.reduceLT, Nat.reduceEqDiff, Nat.reduceAdd, Nat.reduceMul, Nat.reduceLeDiff, Nat.reduceDiv, Nat.reduceMod, Nat.reduceSub, Nat.reduceBEq, List.length_map, bs_len, rn_len] at hk; subst hk)
      | with_reducible refine vSeq_i ?_
      | with_reducible first | refine vRegion_i (by kernel_rfl) ?_ | refine Kv_i ?_
      | ((with_reducible apply vStrK_i); (focus (rfl; done)))
      | ((with_reducible refine imp_i ?_); intro _)
      | with_reducible first | refine Ks_n ?_ | refine Ks_r ?_ | refine Ks_e ?_ | refine Kl_e ?_ | refine Kx_n ?_ | refine Kl_r ?_ | refine vRet_i ?_ | refine vSkip_i ?_ | refine vExit_i ?_ | refine vBlock_i ?_ | refine Ks_p ?_ | refine Kl_p ?_ | refine blk_p ?_ | exact Kb_p | refine vGoto_i ?_ | refine vLabel_i ?_ | refine Ks_g ?_ | refine Kl_g ?_ | refine blk_g ?_ | refine jmp_g ?_ | refine jmp_n ?_ | refine jmp_r ?_ | refine nog_n ?_ | refine nog_r ?_ | refine blk_n ?_ | refine blk_r ?_ | refine blk_e ?_ | refine blk_o (by decide) ?_ | refine cp_t ?_ | refine cp_f ?_
      | ((with_reducible apply vCond_x); (focus (simp only [lv, E1, E2, E5, ET, T, orc_mv, noO_mv, mvB, orc_bx, noO_bx, bxB, orc_sx, noO_sx, sxB, fwd, fwds, inv, mOk, Int.toNat_natCast, Nat.div_one, Nat.mul_one, Int.reduceToNat, SB, List.not_mem_nil, ↓reduceIte, ne_eq, reduceCtorEq, Nat.reduceLT, Nat.reduceEqDiff, Nat.reduceAdd, Nat.reduceMul, Nat.reduceLeDiff, Nat.reduceDiv, Nat.reduceMod, Nat.reduceSub, Nat.reduceBEq, List.length_map, bs_len, rn_len]; with_reducible first | exact Eq.refl (bo true) | exact Eq.refl (bo false))))
      | ((with_reducible refine And.intro ?_ ?_); (focus (try omega)))
    all_goals try (simp only [cnt, List.length_append, List.length_cons, List.length_nil, bs_len, List.length_take]; omega)
    · have hc1 : 1 ≤ c := by omega
      refine Kl_n ⟨c - 1, by omega, by omega, ?_⟩
      have e9 : ((c - 1 : Nat) : Int) - 1 = (c : Int) - 1 - 1 := by omega
      rw [e9, List.append_assoc]
      have eb : bs ((formF (l.getD k 0)).take (4 - c)) ++ [SV.raw (.int .u8 (bitI .or .u8 128 (bitI .and .u8 (IntKind.u8.wrap ((l.getD k 0).fdiv (2 ^ min (6 * ((c : Int) - 1)).toNat IntKind.i32.bits))) 63)))] = bs ((formF (l.getD k 0)).take (4 - (c - 1))) := by
        rcases (by omega : c = 1 ∨ c = 2 ∨ c = 3) with rfl | rfl | rfl
        · rw [cont_c 1 rfl (by decide), Int.ediv_one, form_4 hz]; rfl
        · rw [cont_c 64 rfl (by decide), form_4 hz]; rfl
        · rw [cont_c 4096 rfl (by decide), form_4 hz]; rfl
      rw [eb]
    · have hc0 : c = 0 := by omega
      subst hc0
      refine Kl_n ⟨k + 1, ⟨by omega, fun i hi => by rcases Nat.lt_or_eq_of_le (Nat.le_of_lt_succ hi) with q | q; exact hlt i q; rw [q, hz]; decide⟩, by omega, ?_⟩
      have eT : (formF (l.getD k 0)).take (4 - 0) = formF (l.getD k 0) := List.take_of_length_le (by rw [form_4 hz]; simp)
      rw [encF_1 (by omega), bs_app, eT]
      simp only [Int.natCast_add, Int.natCast_one]
  · exfalso
    have := szU_le (l.getD k 0)
    omega
  · rename_i h1
    have hs : scal l := fun i hi => hlt i (by omega)
    refine Kf_r ?_
    rw [List.take_of_length_le (by omega)]
    simp only [Tryd.f29, E4, E3, E2, E5, rawX, deadX, ET, T, SB, List.not_mem_nil, ↓reduceIte, ne_eq, reduceCtorEq, Nat.reduceLT, Nat.reduceEqDiff, Nat.reduceAdd, Nat.reduceMul, Nat.reduceLeDiff, Nat.reduceDiv, Nat.reduceMod, Nat.reduceSub, Nat.reduceBEq, List.length_map, bs_len, rn_len, encX, encR, if_pos hs]
end Go.Proofs.YtdpflafjfkooeaaDoorG
namespace Go.Proofs.YtdpflafjfkooeaaDoorG
open Go Go.RowKit Go.Proofs
set_option linter.unusedSimpArgs false
set_option linter.unusedVariables false
/-- A text's bytes; none, if one of its numbers is no scalar value. -/
def encV (l : List Int) : List Int := if scal l then encF l else []
theorem encV_le (l : List Int) : (encV l).length ≤ 4 * l.length := by
  unfold encV; split
  · exact encF_le l
  · simp
theorem encR_v (l : List Int) : encR l = [(5, 1, bs (encV l))] := rfl
def pieceF (l : List Int) : List Int := numB ((encV l).length : Int) ++ encV l
theorem numB_len (n : Int) : (numB n).length = 4 := rfl
theorem pieceF_le (l : List Int) : (pieceF l).length ≤ 4 + 4 * l.length := by
  have := encV_le l
  simp only [pieceF, List.length_append, numB_len]; omega
set_option maxRecDepth 10000 in
theorem piece_ok (b l : List Int) (h : R32s l) (hl : l.length ≤ 2000000) (hb : b.length ≤ 130000000000000) : CallM Tryd.prog 37 (5, 1, bs b) [sl (rn l)] (.p (.one (.sr 0))) [(5, 1, bs (b ++ pieceF l))] := by
  have hv := encV_le l
  refine fn_okM' T_ok (orc_ok _) mixed Tryd.func37 rfl (by kernel_rfl) (lv [[0, 1], [0, 5], [4]]) 20 rfl (by simp) rfl ?_
  simp only [argsG, Nat.zero_add, Nat.reduceAdd]
  repeat' first
    | ((first
        | ((with_reducible refine vR_cons (by decide) ?_); generalize hk : KtR _ _ _ _ _ _ _ _ _ _ = k)
        | ((first
        | with_reducible refine vOps_cons' ?_
        | ((with_reducible apply orc_i); (focus ((have hq := encode_ok l h hl; simp only [encX, encR_v] at hq; exact hq); done)))
        | ((with_reducible apply orc_m); (focus (exact number_ok _ _ (by omega); done)))) <;> generalize hk : Kt _ _ _ _ _ _ _ _ _ = k)) <;> (simp only [Tryd.f37, lv, E1, E2, E5, ET, T, orc_mv, noO_mv, mvB, orc_bx, noO_bx, bxB, orc_sx, noO_sx, sxB, fwd, fwds, inv, mOk, Int.toNat_natCast, Nat.div_one, Nat.mul_one, Int.reduceToNat, SB, List.not_mem_nil, ↓reduceIte, ne_eq, reduceCtorEq, Nat.reduceLT, Nat.reduceEqDiff, Nat.reduceAdd, Nat.reduceMul, Nat.reduceLeDiff, Nat.reduceDiv, Nat.reduceMod, Nat.reduceSub, Nat.reduceBEq, List.length_map, bs_len, rn_len, chs_len, chs_cnt, List.length_append, List.length_cons, List.length_nil, Ch.x, Opn.x]; (try simp (disch := omega) only [wrap_in, Int.toNat_natCast, tv_rn, tv_ch0, tv_ch1, tv_ch2]); subst hk))
    | with_reducible first | refine Kt_p ?_ | refine Kt_i (by kernel_rfl) ?_ | refine Kr_f (by kernel_rfl) ?_
    | (with_reducible refine Kr_t ?_; simp only [List.length_append, List.length_cons, List.length_nil, Nat.reduceAdd, Nat.reduceSub, List.drop_succ_cons, List.drop_zero])
    | with_reducible first | refine vR_nil ?_ | refine KtR_i (by kernel_rfl) ?_ | refine KrR_i (by kernel_rfl) ?_ | refine vR_skip (by decide) ?_
    | ((with_reducible refine vB_i ?_ ?_) <;> intro _ <;> (first | (exfalso; omega) | (exact absurd trivial ‹¬True›) | (try dsimp only [])))
    | ((with_reducible refine vOps_nil' ?_); refine Kr_i (by kernel_rfl) ?_; generalize hk : plain _ _ = G; simp only [lv, E3, E2, E5, rawX, deadX, SB, List.not_mem_nil, ↓reduceIte, ne_eq, reduceCtorEq, Nat.reduceLT, Nat.reduceEqDiff, Nat.reduceAdd, Nat.reduceMul, Nat.reduceLeDiff, Nat.reduceDiv, Nat.reduceMod, Nat.reduceSub, Nat.reduceBEq, List.length_map, bs_len, rn_len, chs_len, chs_cnt, List.length_append, List.length_cons, List.length_nil, Ch.x, Opn.x] at hk; subst hk)
    | with_reducible refine vSeq_i ?_
    | with_reducible first | refine vRegion_i (by kernel_rfl) ?_ | refine Kv_i ?_
    | ((with_reducible apply vStrK_i); (focus (rfl; done)))
    | ((with_reducible refine imp_i ?_); intro _)
    | with_reducible first | refine Ks_n ?_ | refine Ks_r ?_ | refine Ks_e ?_ | refine Kl_e ?_ | refine Kx_n ?_ | refine Kl_r ?_ | refine vRet_i ?_ | refine vSkip_i ?_ | refine vExit_i ?_ | refine vBlock_i ?_ | refine Ks_p ?_ | refine Kl_p ?_ | refine blk_p ?_ | exact Kb_p | refine vGoto_i ?_ | refine vLabel_i ?_ | refine Ks_g ?_ | refine Kl_g ?_ | refine blk_g ?_ | refine jmp_g ?_ | refine jmp_n ?_ | refine jmp_r ?_ | refine nog_n ?_ | refine nog_r ?_ | refine blk_n ?_ | refine blk_r ?_ | refine blk_e ?_ | refine blk_o (by decide) ?_ | refine cp_t ?_ | refine cp_f ?_
    | ((with_reducible apply vCond_x); (focus (simp only [lv, E1, E2, E5, ET, T, orc_mv, noO_mv, mvB, orc_bx, noO_bx, bxB, orc_sx, noO_sx, sxB, fwd, fwds, inv, mOk, Int.toNat_natCast, Nat.div_one, Nat.mul_one, Int.reduceToNat, SB, List.not_mem_nil, ↓reduceIte, ne_eq, reduceCtorEq, Nat.reduceLT, Nat.reduceEqDiff, Nat.reduceAdd, Nat.reduceMul, Nat.reduceLeDiff, Nat.reduceDiv, Nat.reduceMod, Nat.reduceSub, Nat.reduceBEq, List.length_map, bs_len, rn_len, chs_len, chs_cnt, List.length_append, List.length_cons, List.length_nil, Ch.x, Opn.x]; with_reducible first | exact Eq.refl (bo true) | exact Eq.refl (bo false))))
    | ((with_reducible refine And.intro ?_ ?_); (focus (try omega)))
  all_goals try (simp only [numB_len]; omega)
  refine Kf_r ?_
  simp only [Tryd.f37, E4, E3, E2, E5, rawX, deadX, ET, T, SB, List.not_mem_nil, ↓reduceIte, ne_eq, reduceCtorEq, Nat.reduceLT, Nat.reduceEqDiff, Nat.reduceAdd, Nat.reduceMul, Nat.reduceLeDiff, Nat.reduceDiv, Nat.reduceMod, Nat.reduceSub, Nat.reduceBEq, List.length_map, bs_len, rn_len, chs_len, chs_cnt, List.length_append, List.length_cons, List.length_nil, Ch.x, Opn.x, pieceF, bs_app, List.append_assoc]
def chF (c : Ch) : List Int := numB c.at_ ++ (pieceF c.gone ++ pieceF c.came)
def chsF (l : List Ch) : List Int := ((l.length : Int) % 256) :: l.flatMap chF
theorem chF_le {c : Ch} (h : c.small) : (chF c).length ≤ 16000012 := by
  have h1 := pieceF_le c.gone; have h2 := pieceF_le c.came; have := h.1; have := h.2
  simp only [chF, List.length_append, numB_len]; omega
theorem flat_le {l : List Ch} (h : ∀ c ∈ l, c.small) : (l.flatMap chF).length ≤ l.length * 16000012 := by
  induction l with
  | nil => simp
  | cons c l ih =>
    have h1 := ih fun c hc => h c (by simp [hc])
    have h2 := chF_le (h c (by simp))
    simp only [List.flatMap_cons, List.length_append, List.length_cons]; omega
theorem flat_1 {l : List Ch} {k : Nat} (h : k < l.length) : (l.take (k + 1)).flatMap chF = (l.take k).flatMap chF ++ chF (l.getD k noCh) := by
  have e : l.take (k + 1) = l.take k ++ [l.getD k noCh] := by rw [List.take_add_one]; simp [List.getD, List.getElem?_eq_getElem h]
  rw [e, List.flatMap_append]
  simp only [List.flatMap_cons, List.flatMap_nil, List.append_nil]
set_option maxRecDepth 10000 in
set_option maxHeartbeats 4000000 in
theorem wchanges_ok (b : List Int) (l : List Ch) (hl : l.length ≤ 2000000) (hc : ∀ c ∈ l, c.small) (hr : ∀ c ∈ l, R32s c.gone ∧ R32s c.came) (hb : b.length ≤ 70000000000000) : CallM Tryd.prog 36 (5, 1, bs b) [sln 3 (chs l)] (.p (.one (.sr 0))) [(5, 1, bs (b ++ chsF l))] := by
  refine fn_okM' T_ok (orc_ok _) mixed Tryd.func36 rfl (by kernel_rfl) (lv [[0, 1], [0, 1], [0, 13, 14, 15], [0, 13, 14, 15, 16], [0, 6, 13, 14, 15], [0, 13, 14, 15], [0, 13, 14, 15], [4]]) 31 rfl (by simp) rfl ?_
  simp only [argsG, Nat.zero_add, Nat.reduceAdd]
  repeat' first
    | ((first
        | ((with_reducible refine vR_cons (by decide) ?_); generalize hk : KtR _ _ _ _ _ _ _ _ _ _ = k)
        | ((first
        | with_reducible refine vOps_cons' ?_) <;> generalize hk : Kt _ _ _ _ _ _ _ _ _ = k)) <;> (simp only [Tryd.f36, lv, E1, E2, E5, ET, T, orc_mv, noO_mv, mvB, orc_bx, noO_bx, bxB, orc_sx, noO_sx, sxB, fwd, fwds, inv, mOk, Int.toNat_natCast, Nat.div_one, Nat.mul_one, Int.reduceToNat, SB, List.not_mem_nil, ↓reduceIte, ne_eq, reduceCtorEq, Nat.reduceLT, Nat.reduceEqDiff, Nat.reduceAdd, Nat.reduceMul, Nat.reduceLeDiff, Nat.reduceDiv, Nat.reduceMod, Nat.reduceSub, Nat.reduceBEq, List.length_map, bs_len, rn_len, chs_len, chs_cnt, List.length_append, List.length_cons, List.length_nil, Ch.x, Opn.x]; (try simp (disch := omega) only [wrap_in, Int.toNat_natCast, tv_rn, tv_ch0, tv_ch1, tv_ch2]); subst hk))
    | with_reducible first | refine Kt_p ?_ | refine Kt_i (by kernel_rfl) ?_ | refine Kr_f (by kernel_rfl) ?_
    | (with_reducible refine Kr_t ?_; simp only [List.length_append, List.length_cons, List.length_nil, Nat.reduceAdd, Nat.reduceSub, List.drop_succ_cons, List.drop_zero])
    | with_reducible first | refine vR_nil ?_ | refine KtR_i (by kernel_rfl) ?_ | refine KrR_i (by kernel_rfl) ?_ | refine vR_skip (by decide) ?_
    | ((with_reducible refine vB_i ?_ ?_) <;> intro _ <;> (first | (exfalso; omega) | (exact absurd trivial ‹¬True›) | (try dsimp only [])))
    | ((with_reducible refine vOps_nil' ?_); refine Kr_i (by kernel_rfl) ?_; generalize hk : plain _ _ = G; simp only [lv, E3, E2, E5, rawX, deadX, SB, List.not_mem_nil, ↓reduceIte, ne_eq, reduceCtorEq, Nat.reduceLT, Nat.reduceEqDiff, Nat.reduceAdd, Nat.reduceMul, Nat.reduceLeDiff, Nat.reduceDiv, Nat.reduceMod, Nat.reduceSub, Nat.reduceBEq, List.length_map, bs_len, rn_len, chs_len, chs_cnt, List.length_append, List.length_cons, List.length_nil, Ch.x, Opn.x] at hk; subst hk)
    | with_reducible refine vSeq_i ?_
    | with_reducible first | refine vRegion_i (by kernel_rfl) ?_ | refine Kv_i ?_
    | ((with_reducible apply vStrK_i); (focus (rfl; done)))
    | ((with_reducible refine imp_i ?_); intro _)
    | with_reducible first | refine Ks_n ?_ | refine Ks_r ?_ | refine Ks_e ?_ | refine Kl_e ?_ | refine Kx_n ?_ | refine Kl_r ?_ | refine vRet_i ?_ | refine vSkip_i ?_ | refine vExit_i ?_ | refine vBlock_i ?_ | refine Ks_p ?_ | refine Kl_p ?_ | refine blk_p ?_ | exact Kb_p | refine vGoto_i ?_ | refine vLabel_i ?_ | refine Ks_g ?_ | refine Kl_g ?_ | refine blk_g ?_ | refine jmp_g ?_ | refine jmp_n ?_ | refine jmp_r ?_ | refine nog_n ?_ | refine nog_r ?_ | refine blk_n ?_ | refine blk_r ?_ | refine blk_e ?_ | refine blk_o (by decide) ?_ | refine cp_t ?_ | refine cp_f ?_
    | ((with_reducible apply vCond_x); (focus (simp only [lv, E1, E2, E5, ET, T, orc_mv, noO_mv, mvB, orc_bx, noO_bx, bxB, orc_sx, noO_sx, sxB, fwd, fwds, inv, mOk, Int.toNat_natCast, Nat.div_one, Nat.mul_one, Int.reduceToNat, SB, List.not_mem_nil, ↓reduceIte, ne_eq, reduceCtorEq, Nat.reduceLT, Nat.reduceEqDiff, Nat.reduceAdd, Nat.reduceMul, Nat.reduceLeDiff, Nat.reduceDiv, Nat.reduceMod, Nat.reduceSub, Nat.reduceBEq, List.length_map, bs_len, rn_len, chs_len, chs_cnt, List.length_append, List.length_cons, List.length_nil, Ch.x, Opn.x]; with_reducible first | exact Eq.refl (bo true) | exact Eq.refl (bo false))))
    | ((with_reducible refine And.intro ?_ ?_); (focus (try omega)))
  all_goals try omega
  refine vLoop_s (fun k : Nat => [(.t 0, .t (.p (.one (.sr 0)))), (.t 13, .t (sln 3 (chs l))), (.t 14, .t (i64 l.length)), (.t 15, .t (i64 k)), (.row 0, .row 5 1 (bs (b ++ (((l.length : Int) % 256) :: (l.take k).flatMap chF))))]) (fun k => k ≤ l.length) (fun k => l.length - k) 0 (by omega) (by rw [u8w, bs_app]; rfl) ?_
  intro k hk
  have hf : ((l.take k).flatMap chF).length ≤ k * 16000012 := by
    have := flat_le (l := l.take k) fun c h => hc c (List.mem_of_mem_take h)
    rw [List.length_take] at this
    exact Nat.le_trans this (Nat.mul_le_mul_right _ (by omega))
  have hp1 := fun h : k < l.length => pieceF_le (l.getD k noCh).gone
  have hp2 := fun h : k < l.length => pieceF_le (l.getD k noCh).came
  have hs := fun h : k < l.length => hc (l.getD k noCh) (mem_getD h)
  have hq := fun h : k < l.length => hr (l.getD k noCh) (mem_getD h)
  repeat' first
    | ((first
        | ((with_reducible refine vR_cons (by decide) ?_); generalize hk : KtR _ _ _ _ _ _ _ _ _ _ = k)
        | ((first
        | with_reducible refine vOps_cons' ?_
        | ((with_reducible apply orc_m); (focus (exact number_ok _ _ (by simp only [List.length_append, List.length_cons]; omega); done)))
        | ((with_reducible apply orc_m); (focus (exact piece_ok _ _ (hq (by omega)).1 (hs (by omega)).1 (by simp only [List.length_append, List.length_cons, numB_len]; omega); done)))
        | ((with_reducible apply orc_m); (focus (exact piece_ok _ _ (hq (by omega)).2 (hs (by omega)).2 (by have := hp1 (by omega); have := (hs (by omega)).1; simp only [List.length_append, List.length_cons, numB_len]; omega); done)))) <;> generalize hk : Kt _ _ _ _ _ _ _ _ _ = k)) <;> (simp only [Tryd.f36, lv, E1, E2, E5, ET, T, orc_mv, noO_mv, mvB, orc_bx, noO_bx, bxB, orc_sx, noO_sx, sxB, fwd, fwds, inv, mOk, Int.toNat_natCast, Nat.div_one, Nat.mul_one, Int.reduceToNat, SB, List.not_mem_nil, ↓reduceIte, ne_eq, reduceCtorEq, Nat.reduceLT, Nat.reduceEqDiff, Nat.reduceAdd, Nat.reduceMul, Nat.reduceLeDiff, Nat.reduceDiv, Nat.reduceMod, Nat.reduceSub, Nat.reduceBEq, List.length_map, bs_len, rn_len, chs_len, chs_cnt, List.length_append, List.length_cons, List.length_nil, Ch.x, Opn.x]; (try simp (disch := omega) only [wrap_in, Int.toNat_natCast, tv_rn, tv_ch0, tv_ch1, tv_ch2]); subst hk))
    | with_reducible first | refine Kt_p ?_ | refine Kt_i (by kernel_rfl) ?_ | refine Kr_f (by kernel_rfl) ?_
    | (with_reducible refine Kr_t ?_; simp only [List.length_append, List.length_cons, List.length_nil, Nat.reduceAdd, Nat.reduceSub, List.drop_succ_cons, List.drop_zero])
    | with_reducible first | refine vR_nil ?_ | refine KtR_i (by kernel_rfl) ?_ | refine KrR_i (by kernel_rfl) ?_ | refine vR_skip (by decide) ?_
    | ((with_reducible refine vB_i ?_ ?_) <;> intro _ <;> (first | (exfalso; omega) | (exact absurd trivial ‹¬True›) | (try dsimp only [])))
    | ((with_reducible refine vOps_nil' ?_); refine Kr_i (by kernel_rfl) ?_; generalize hk : plain _ _ = G; simp only [lv, E3, E2, E5, rawX, deadX, SB, List.not_mem_nil, ↓reduceIte, ne_eq, reduceCtorEq, Nat.reduceLT, Nat.reduceEqDiff, Nat.reduceAdd, Nat.reduceMul, Nat.reduceLeDiff, Nat.reduceDiv, Nat.reduceMod, Nat.reduceSub, Nat.reduceBEq, List.length_map, bs_len, rn_len, chs_len, chs_cnt, List.length_append, List.length_cons, List.length_nil, Ch.x, Opn.x] at hk; subst hk)
    | with_reducible refine vSeq_i ?_
    | with_reducible first | refine vRegion_i (by kernel_rfl) ?_ | refine Kv_i ?_
    | ((with_reducible apply vStrK_i); (focus (rfl; done)))
    | ((with_reducible refine imp_i ?_); intro _)
    | with_reducible first | refine Ks_n ?_ | refine Ks_r ?_ | refine Ks_e ?_ | refine Kl_e ?_ | refine Kx_n ?_ | refine Kl_r ?_ | refine vRet_i ?_ | refine vSkip_i ?_ | refine vExit_i ?_ | refine vBlock_i ?_ | refine Ks_p ?_ | refine Kl_p ?_ | refine blk_p ?_ | exact Kb_p | refine vGoto_i ?_ | refine vLabel_i ?_ | refine Ks_g ?_ | refine Kl_g ?_ | refine blk_g ?_ | refine jmp_g ?_ | refine jmp_n ?_ | refine jmp_r ?_ | refine nog_n ?_ | refine nog_r ?_ | refine blk_n ?_ | refine blk_r ?_ | refine blk_e ?_ | refine blk_o (by decide) ?_ | refine cp_t ?_ | refine cp_f ?_
    | ((with_reducible apply vCond_x); (focus (simp only [lv, E1, E2, E5, ET, T, orc_mv, noO_mv, mvB, orc_bx, noO_bx, bxB, orc_sx, noO_sx, sxB, fwd, fwds, inv, mOk, Int.toNat_natCast, Nat.div_one, Nat.mul_one, Int.reduceToNat, SB, List.not_mem_nil, ↓reduceIte, ne_eq, reduceCtorEq, Nat.reduceLT, Nat.reduceEqDiff, Nat.reduceAdd, Nat.reduceMul, Nat.reduceLeDiff, Nat.reduceDiv, Nat.reduceMod, Nat.reduceSub, Nat.reduceBEq, List.length_map, bs_len, rn_len, chs_len, chs_cnt, List.length_append, List.length_cons, List.length_nil, Ch.x, Opn.x]; with_reducible first | exact Eq.refl (bo true) | exact Eq.refl (bo false))))
    | ((with_reducible refine And.intro ?_ ?_); (focus (try omega)))
  · refine Kl_n ⟨k + 1, by omega, by omega, ?_⟩
    rw [flat_1 (by omega)]
    simp only [Int.natCast_add, Int.natCast_one, chF, List.append_assoc, List.cons_append]
  · refine Kf_r ?_
    rw [List.take_of_length_le (by omega)]
    simp only [Tryd.f36, E4, E3, E2, E5, rawX, deadX, ET, T, SB, List.not_mem_nil, ↓reduceIte, ne_eq, reduceCtorEq, Nat.reduceLT, Nat.reduceEqDiff, Nat.reduceAdd, Nat.reduceMul, Nat.reduceLeDiff, Nat.reduceDiv, Nat.reduceMod, Nat.reduceSub, Nat.reduceBEq, List.length_map, bs_len, rn_len, chs_len, chs_cnt, List.length_append, List.length_cons, List.length_nil, Ch.x, Opn.x, chsF]
def isI (n : Int) : Bool := decide (0 ≤ n ∧ n ≤ 2147483647)
/-- An operation's bytes, and why not. -/
def opF (o : Opn) : List Int × Int :=
  if o.kind = 1 then if isI o.at_ = false ∨ o.text = [] then ([], 2) else if ¬ scal o.text then ([], 11) else if 5 + (encF o.text).length > 4096 then ([], 3) else (1 :: (numB o.at_ ++ encF o.text), 0)
  else if o.kind = 2 then if isI o.at_ = false ∨ isI o.to_ = false then ([], 2) else (2 :: (numB o.at_ ++ numB o.to_), 0)
  else if o.kind = 3 ∨ o.kind = 4 then ([o.kind], 0) else ([], 2)
theorem scal_of {l : List Int} (h : (if scal l then (0 : Int) else 11) = 0) : scal l := by
  by_cases hs : scal l
  · exact hs
  · rw [if_neg hs] at h; exact absurd h (by decide)
theorem not_scal {l : List Int} (h : ¬ (if scal l then (0 : Int) else 11) = 0) : ¬ scal l := fun hs => h (if_pos hs)
theorem isI_t {n : Int} (h : 0 ≤ n ∧ n ≤ 2147483647) : isI n = true := decide_eq_true h
theorem isI_f {n : Int} (h : ¬ (0 ≤ n ∧ n ≤ 2147483647)) : isI n = false := decide_eq_false h
theorem opF_err1 {o : Opn} (k : o.kind = 1) (h : isI o.at_ = false ∨ o.text = []) : opF o = ([], 2) := by unfold opF; rw [if_pos k, if_pos h]
theorem opF_scal {o : Opn} (k : o.kind = 1) (h : ¬ (isI o.at_ = false ∨ o.text = [])) (hs : ¬ scal o.text) : opF o = ([], 11) := by unfold opF; rw [if_pos k, if_neg h, if_pos hs]
theorem opF_big {o : Opn} (k : o.kind = 1) (h : ¬ (isI o.at_ = false ∨ o.text = [])) (hs : scal o.text) (hb : 5 + (encF o.text).length > 4096) : opF o = ([], 3) := by unfold opF; rw [if_pos k, if_neg h, if_neg (fun q => q hs), if_pos hb]
theorem opF_ins {o : Opn} (k : o.kind = 1) (h : ¬ (isI o.at_ = false ∨ o.text = [])) (hs : scal o.text) (hb : ¬ 5 + (encF o.text).length > 4096) : opF o = (1 :: (numB o.at_ ++ encF o.text), 0) := by unfold opF; rw [if_pos k, if_neg h, if_neg (fun q => q hs), if_neg hb]
theorem opF_err2 {o : Opn} (k : o.kind = 2) (h : isI o.at_ = false ∨ isI o.to_ = false) : opF o = ([], 2) := by unfold opF; rw [if_neg (by omega), if_pos k, if_pos h]
theorem opF_del {o : Opn} (k : o.kind = 2) (h : ¬ (isI o.at_ = false ∨ isI o.to_ = false)) : opF o = (2 :: (numB o.at_ ++ numB o.to_), 0) := by unfold opF; rw [if_neg (by omega), if_pos k, if_neg h]
theorem opF_un {o : Opn} (k : o.kind = 3 ∨ o.kind = 4) : opF o = ([o.kind], 0) := by unfold opF; rw [if_neg (by omega), if_neg (by omega), if_pos k]
theorem opF_no {o : Opn} (h1 : ¬ o.kind = 1) (h2 : ¬ o.kind = 2) (h3 : ¬ o.kind = 3) (h4 : ¬ o.kind = 4) : opF o = ([], 2) := by unfold opF; rw [if_neg h1, if_neg h2, if_neg (by omega)]
theorem w_1 : IntKind.u8.wrap 1 = 1 := by decide
theorem w_2 : IntKind.u8.wrap 2 = 2 := by decide
set_option maxRecDepth 10000 in
set_option maxHeartbeats 4000000 in
theorem wop_ok (o : Opn) (h : R32s o.text) (hl : o.text.length ≤ 2000000) : CallOk Tryd.prog 16 [o.x] (.tup [.one (.sr 0), .one (.v (.raw (.int .i64 (opF o).2)))]) [(5, 1, bs (opF o).1)] true := by
  have hv := encV_le o.text
  refine fn_ok' T_ok (orc_ok _) mixed Tryd.func16 rfl (by kernel_rfl) (lv [[1], [1, 4], [1, 4, 13], [2, 3], [1, 4, 13, 14], [1, 4, 25], [2, 3], [1, 4, 5, 7], [1, 4, 5, 7, 34], [2, 3], [4], [1, 4, 13, 42], [1, 4, 53], [2, 3], [4], [4, 13, 61], [4, 61], [4, 66], [2, 3], [2, 3]]) 68 rfl (by simp) rfl (fun _ => ⟨rfl, rows_raw⟩) ?_
  simp only [argsG, Nat.zero_add, Nat.reduceAdd, Opn.x]
  repeat' first
    | ((first
        | ((with_reducible refine vR_cons (by decide) ?_); generalize hk : KtR _ _ _ _ _ _ _ _ _ _ = k)
        | ((first
        | with_reducible refine vOps_cons' ?_
        | ((with_reducible apply orc_b); (focus (exact is_ok _; done)); (all_goals (intro hb; (try simp only [decide_eq_true_eq, decide_eq_false_iff_not, Bool.not_eq_true', Bool.not_eq_false', Bool.and_eq_true, Decidable.not_not] at hb))))
        | ((with_reducible apply orc_i); (focus ((have hq := encode_ok o.text h hl; simp only [encX, encR_v] at hq; exact hq); done)))
        | ((with_reducible apply orc_m); (focus (exact number_ok [IntKind.u8.wrap o.kind] _ (by simp); done)))
        | ((with_reducible apply orc_m); (focus (exact number_ok _ _ (by simp only [List.length_append, List.length_cons, List.length_nil, numB_len]; omega); done)))) <;> generalize hk : Kt _ _ _ _ _ _ _ _ _ = k)) <;> (simp only [Tryd.f16, lv, E1, E2, E5, ET, T, orc_mv, noO_mv, mvB, orc_bx, noO_bx, bxB, orc_sx, noO_sx, sxB, fwd, fwds, inv, mOk, Int.toNat_natCast, Nat.div_one, Nat.mul_one, Int.reduceToNat, SB, List.not_mem_nil, ↓reduceIte, ne_eq, reduceCtorEq, Nat.reduceLT, Nat.reduceEqDiff, Nat.reduceAdd, Nat.reduceMul, Nat.reduceLeDiff, Nat.reduceDiv, Nat.reduceMod, Nat.reduceSub, Nat.reduceBEq, List.length_map, bs_len, rn_len, chs_len, chs_cnt, List.length_append, List.length_cons, List.length_nil, Ch.x, Opn.x]; (try simp (disch := omega) only [wrap_in, Int.toNat_natCast, tv_rn, tv_ch0, tv_ch1, tv_ch2]); subst hk))
    | with_reducible first | refine Kt_p ?_ | refine Kt_i (by kernel_rfl) ?_ | refine Kr_f (by kernel_rfl) ?_
    | (with_reducible refine Kr_t ?_; simp only [List.length_append, List.length_cons, List.length_nil, Nat.reduceAdd, Nat.reduceSub, List.drop_succ_cons, List.drop_zero])
    | with_reducible first | refine vR_nil ?_ | refine KtR_i (by kernel_rfl) ?_ | refine KrR_i (by kernel_rfl) ?_ | refine vR_skip (by decide) ?_
    | ((with_reducible refine vB_i ?_ ?_) <;> intro _ <;> (first | (exfalso; omega) | (exact absurd trivial ‹¬True›) | (try dsimp only [])))
    | ((with_reducible refine vOps_nil' ?_); refine Kr_i (by kernel_rfl) ?_; generalize hk : plain _ _ = G; simp only [lv, E3, E2, E5, rawX, deadX, SB, List.not_mem_nil, ↓reduceIte, ne_eq, reduceCtorEq, Nat.reduceLT, Nat.reduceEqDiff, Nat.reduceAdd, Nat.reduceMul, Nat.reduceLeDiff, Nat.reduceDiv, Nat.reduceMod, Nat.reduceSub, Nat.reduceBEq, List.length_map, bs_len, rn_len, chs_len, chs_cnt, List.length_append, List.length_cons, List.length_nil, Ch.x, Opn.x] at hk; subst hk)
    | with_reducible refine vSeq_i ?_
    | with_reducible first | refine vRegion_i (by kernel_rfl) ?_ | refine Kv_i ?_
    | ((with_reducible apply vStrK_i); (focus (rfl; done)))
    | ((with_reducible refine imp_i ?_); intro _)
    | with_reducible first | refine Ks_n ?_ | refine Ks_r ?_ | refine Ks_e ?_ | refine Kl_e ?_ | refine Kx_n ?_ | refine Kl_r ?_ | refine vRet_i ?_ | refine vSkip_i ?_ | refine vExit_i ?_ | refine vBlock_i ?_ | refine Ks_p ?_ | refine Kl_p ?_ | refine blk_p ?_ | exact Kb_p | refine vGoto_i ?_ | refine vLabel_i ?_ | refine Ks_g ?_ | refine Kl_g ?_ | refine blk_g ?_ | refine jmp_g ?_ | refine jmp_n ?_ | refine jmp_r ?_ | refine nog_n ?_ | refine nog_r ?_ | refine blk_n ?_ | refine blk_r ?_ | refine blk_e ?_ | refine blk_o (by decide) ?_ | refine cp_t ?_ | refine cp_f ?_
    | ((with_reducible apply vCond_x); (focus (simp only [lv, E1, E2, E5, ET, T, orc_mv, noO_mv, mvB, orc_bx, noO_bx, bxB, orc_sx, noO_sx, sxB, fwd, fwds, inv, mOk, Int.toNat_natCast, Nat.div_one, Nat.mul_one, Int.reduceToNat, SB, List.not_mem_nil, ↓reduceIte, ne_eq, reduceCtorEq, Nat.reduceLT, Nat.reduceEqDiff, Nat.reduceAdd, Nat.reduceMul, Nat.reduceLeDiff, Nat.reduceDiv, Nat.reduceMod, Nat.reduceSub, Nat.reduceBEq, List.length_map, bs_len, rn_len, chs_len, chs_cnt, List.length_append, List.length_cons, List.length_nil, Ch.x, Opn.x]; with_reducible first | exact Eq.refl (bo true) | exact Eq.refl (bo false))))
    | ((with_reducible refine And.intro ?_ ?_); (focus (try omega)))
  all_goals try (simp only [List.length_append, List.length_cons, List.length_nil, numB_len]; omega)
  · rename_i k1 k2
    rw [opF_err1 k1 (.inr (List.eq_nil_of_length_eq_zero (by omega)))]
    refine Kf_r ?_
    simp only [Tryd.f16, E4, E3, E2, E5, rawX, deadX, ET, T, SB, List.not_mem_nil, ↓reduceIte, ne_eq, reduceCtorEq, Nat.reduceLT, Nat.reduceEqDiff, Nat.reduceAdd, Nat.reduceMul, Nat.reduceLeDiff, Nat.reduceDiv, Nat.reduceMod, Nat.reduceSub, Nat.reduceBEq, List.length_map, bs_len, rn_len, chs_len, chs_cnt, List.length_append, List.length_cons, List.length_nil, Ch.x, Opn.x, bs_nil]
  · rename_i k1 k2 k3 k4
    have hn : ¬ (isI o.at_ = false ∨ o.text = []) := fun q => by
      rcases q with q | q
      · rw [isI_t hb] at q; cases q
      · rw [q] at k2; exact k2 rfl
    have hs := scal_of k3
    rw [show encV o.text = encF o.text from if_pos hs, numB_len] at k4
    rw [opF_big k1 hn hs (by omega)]
    refine Kf_r ?_
    simp only [Tryd.f16, E4, E3, E2, E5, rawX, deadX, ET, T, SB, List.not_mem_nil, ↓reduceIte, ne_eq, reduceCtorEq, Nat.reduceLT, Nat.reduceEqDiff, Nat.reduceAdd, Nat.reduceMul, Nat.reduceLeDiff, Nat.reduceDiv, Nat.reduceMod, Nat.reduceSub, Nat.reduceBEq, List.length_map, bs_len, rn_len, chs_len, chs_cnt, List.length_append, List.length_cons, List.length_nil, Ch.x, Opn.x, bs_nil]
  · rename_i k1 k2 k3 k4
    have hn : ¬ (isI o.at_ = false ∨ o.text = []) := fun q => by
      rcases q with q | q
      · rw [isI_t hb] at q; cases q
      · rw [q] at k2; exact k2 rfl
    have hs := scal_of k3
    rw [show encV o.text = encF o.text from if_pos hs, numB_len] at k4
    rw [opF_ins k1 hn hs (by omega), show encV o.text = encF o.text from if_pos hs, k1, w_1, ← bs_app]
    refine Kf_r ?_
    simp only [Tryd.f16, E4, E3, E2, E5, rawX, deadX, ET, T, SB, List.not_mem_nil, ↓reduceIte, ne_eq, reduceCtorEq, Nat.reduceLT, Nat.reduceEqDiff, Nat.reduceAdd, Nat.reduceMul, Nat.reduceLeDiff, Nat.reduceDiv, Nat.reduceMod, Nat.reduceSub, Nat.reduceBEq, List.length_map, bs_len, rn_len, chs_len, chs_cnt, List.length_append, List.length_cons, List.length_nil, Ch.x, Opn.x, List.cons_append]
  · rename_i k1 k2 k3
    have hn : ¬ (isI o.at_ = false ∨ o.text = []) := fun q => by
      rcases q with q | q
      · rw [isI_t hb] at q; cases q
      · rw [q] at k2; exact k2 rfl
    have hs := not_scal k3
    rw [opF_scal k1 hn hs, if_neg hs]
    refine Kf_r ?_
    simp only [Tryd.f16, E4, E3, E2, E5, rawX, deadX, ET, T, SB, List.not_mem_nil, ↓reduceIte, ne_eq, reduceCtorEq, Nat.reduceLT, Nat.reduceEqDiff, Nat.reduceAdd, Nat.reduceMul, Nat.reduceLeDiff, Nat.reduceDiv, Nat.reduceMod, Nat.reduceSub, Nat.reduceBEq, List.length_map, bs_len, rn_len, chs_len, chs_cnt, List.length_append, List.length_cons, List.length_nil, Ch.x, Opn.x, bs_nil]
  · rename_i k1
    rw [opF_err1 k1 (.inl (isI_f hb))]
    refine Kf_r ?_
    simp only [Tryd.f16, E4, E3, E2, E5, rawX, deadX, ET, T, SB, List.not_mem_nil, ↓reduceIte, ne_eq, reduceCtorEq, Nat.reduceLT, Nat.reduceEqDiff, Nat.reduceAdd, Nat.reduceMul, Nat.reduceLeDiff, Nat.reduceDiv, Nat.reduceMod, Nat.reduceSub, Nat.reduceBEq, List.length_map, bs_len, rn_len, chs_len, chs_cnt, List.length_append, List.length_cons, List.length_nil, Ch.x, Opn.x, bs_nil]
  · rename_i k1 k2 hb1 k3
    exfalso
    rw [numB_len, numB_len] at k3
    omega
  · rename_i k1 k2 hb1 k3
    have hn : ¬ (isI o.at_ = false ∨ isI o.to_ = false) := fun q => by
      rcases q with q | q
      · rw [isI_t hb1] at q; cases q
      · rw [isI_t hb] at q; cases q
    rw [opF_del k2 hn, k2, w_2]
    refine Kf_r ?_
    simp only [Tryd.f16, E4, E3, E2, E5, rawX, deadX, ET, T, SB, List.not_mem_nil, ↓reduceIte, ne_eq, reduceCtorEq, Nat.reduceLT, Nat.reduceEqDiff, Nat.reduceAdd, Nat.reduceMul, Nat.reduceLeDiff, Nat.reduceDiv, Nat.reduceMod, Nat.reduceSub, Nat.reduceBEq, List.length_map, bs_len, rn_len, chs_len, chs_cnt, List.length_append, List.length_cons, List.length_nil, Ch.x, Opn.x, bs_nil]
  · rename_i k1 k2 hb1
    rw [opF_err2 k2 (.inr (isI_f hb))]
    refine Kf_r ?_
    simp only [Tryd.f16, E4, E3, E2, E5, rawX, deadX, ET, T, SB, List.not_mem_nil, ↓reduceIte, ne_eq, reduceCtorEq, Nat.reduceLT, Nat.reduceEqDiff, Nat.reduceAdd, Nat.reduceMul, Nat.reduceLeDiff, Nat.reduceDiv, Nat.reduceMod, Nat.reduceSub, Nat.reduceBEq, List.length_map, bs_len, rn_len, chs_len, chs_cnt, List.length_append, List.length_cons, List.length_nil, Ch.x, Opn.x, bs_nil]
  · rename_i k1 k2
    rw [opF_err2 k2 (.inl (isI_f hb))]
    refine Kf_r ?_
    simp only [Tryd.f16, E4, E3, E2, E5, rawX, deadX, ET, T, SB, List.not_mem_nil, ↓reduceIte, ne_eq, reduceCtorEq, Nat.reduceLT, Nat.reduceEqDiff, Nat.reduceAdd, Nat.reduceMul, Nat.reduceLeDiff, Nat.reduceDiv, Nat.reduceMod, Nat.reduceSub, Nat.reduceBEq, List.length_map, bs_len, rn_len, chs_len, chs_cnt, List.length_append, List.length_cons, List.length_nil, Ch.x, Opn.x, bs_nil]
  · rename_i k1 k2 k3 k4
    rw [opF_un (.inl k3), show IntKind.u8.wrap o.kind = o.kind from u8in (by omega) (by omega)]
    refine Kf_r ?_
    simp only [Tryd.f16, E4, E3, E2, E5, rawX, deadX, ET, T, SB, List.not_mem_nil, ↓reduceIte, ne_eq, reduceCtorEq, Nat.reduceLT, Nat.reduceEqDiff, Nat.reduceAdd, Nat.reduceMul, Nat.reduceLeDiff, Nat.reduceDiv, Nat.reduceMod, Nat.reduceSub, Nat.reduceBEq, List.length_map, bs_len, rn_len, chs_len, chs_cnt, List.length_append, List.length_cons, List.length_nil, Ch.x, Opn.x, bs, List.map_cons, List.map_nil]
  · rename_i k1 k2 k3 k4 k5
    rw [opF_un (.inr k4), show IntKind.u8.wrap o.kind = o.kind from u8in (by omega) (by omega)]
    refine Kf_r ?_
    simp only [Tryd.f16, E4, E3, E2, E5, rawX, deadX, ET, T, SB, List.not_mem_nil, ↓reduceIte, ne_eq, reduceCtorEq, Nat.reduceLT, Nat.reduceEqDiff, Nat.reduceAdd, Nat.reduceMul, Nat.reduceLeDiff, Nat.reduceDiv, Nat.reduceMod, Nat.reduceSub, Nat.reduceBEq, List.length_map, bs_len, rn_len, chs_len, chs_cnt, List.length_append, List.length_cons, List.length_nil, Ch.x, Opn.x, bs, List.map_cons, List.map_nil]
  · rename_i k1 k2 k3 k4
    rw [opF_no k1 k2 k3 k4]
    refine Kf_r ?_
    simp only [Tryd.f16, E4, E3, E2, E5, rawX, deadX, ET, T, SB, List.not_mem_nil, ↓reduceIte, ne_eq, reduceCtorEq, Nat.reduceLT, Nat.reduceEqDiff, Nat.reduceAdd, Nat.reduceMul, Nat.reduceLeDiff, Nat.reduceDiv, Nat.reduceMod, Nat.reduceSub, Nat.reduceBEq, List.length_map, bs_len, rn_len, chs_len, chs_cnt, List.length_append, List.length_cons, List.length_nil, Ch.x, Opn.x, bs_nil]
end Go.Proofs.YtdpflafjfkooeaaDoorG
