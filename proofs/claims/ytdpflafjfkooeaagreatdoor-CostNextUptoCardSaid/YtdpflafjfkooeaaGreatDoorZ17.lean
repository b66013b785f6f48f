/- YtdpflafjfkooeaaGreatDoorZ17: a part of the proof, joined of its texts. -/
import Derived.Test.YtdpflafjfkooeaaGreatDoorZ16
namespace Go.Proofs.YtdpflafjfkooeaaGreatDoorG
open Go Go.RowKit Go.Proofs
set_option linter.unusedSimpArgs false
set_option linter.unusedVariables false
/-- A text's bytes. -/
def encF (l : List Int) : List Int := l.flatMap formF
theorem encF_app (a b : List Int) : encF (a ++ b) = encF a ++ encF b := by simp [encF]
theorem take_1 {l : List Int} {k : Nat} (h : k < l.length) : l.take (k + 1) = l.take k ++ [l.getD k 0] := by
  rw [List.take_add_one]; simp [List.getD, List.getElem?_eq_getElem h]
theorem encF_1 {l : List Int} {k : Nat} (h : k < l.length) : encF (l.take (k + 1)) = encF (l.take k) ++ formF (l.getD k 0) := by
  rw [take_1 h, encF_app]; simp [encF]
theorem form_le (r : Int) : (formF r).length ≤ 4 := by unfold formF; (repeat' split) <;> simp
theorem encF_le (l : List Int) : (encF l).length ≤ 4 * l.length := by
  induction l with
  | nil => simp [encF]
  | cons r l ih => have := form_le r; simp only [encF, List.flatMap_cons, List.length_append, List.length_cons] at ih ⊢; omega
set_option maxRecDepth 100000 in
theorem and63 {x : Int} (h0 : 0 ≤ x) (h1 : x < 256) : bitI .and .u8 x 63 = x % 64 := by
  have key : ∀ n : Fin 256, bitI .and .u8 (n.val : Int) 63 = (n.val : Int) % 64 := by decide
  obtain ⟨n, rfl⟩ := Int.eq_ofNat_of_zero_le h0
  exact key ⟨n, by omega⟩
theorem or128 {y : Int} (h0 : 0 ≤ y) (h1 : y < 64) : bitI .or .u8 128 y = 128 + y := by
  have key : ∀ n : Fin 64, bitI .or .u8 128 (n.val : Int) = 128 + (n.val : Int) := by decide
  obtain ⟨n, rfl⟩ := Int.eq_ofNat_of_zero_le h0
  exact key ⟨n, by omega⟩
theorem or192 {y : Int} (h0 : 0 ≤ y) (h1 : y < 32) : bitI .or .u8 192 y = 192 + y := by
  have key : ∀ n : Fin 32, bitI .or .u8 192 (n.val : Int) = 192 + (n.val : Int) := by decide
  obtain ⟨n, rfl⟩ := Int.eq_ofNat_of_zero_le h0
  exact key ⟨n, by omega⟩
theorem or224 {y : Int} (h0 : 0 ≤ y) (h1 : y < 16) : bitI .or .u8 224 y = 224 + y := by
  have key : ∀ n : Fin 16, bitI .or .u8 224 (n.val : Int) = 224 + (n.val : Int) := by decide
  obtain ⟨n, rfl⟩ := Int.eq_ofNat_of_zero_le h0
  exact key ⟨n, by omega⟩
theorem or240 {y : Int} (h0 : 0 ≤ y) (h1 : y < 8) : bitI .or .u8 240 y = 240 + y := by
  have key : ∀ n : Fin 8, bitI .or .u8 240 (n.val : Int) = 240 + (n.val : Int) := by decide
  obtain ⟨n, rfl⟩ := Int.eq_ofNat_of_zero_le h0
  exact key ⟨n, by omega⟩
theorem cont_b (x : Int) : bitI .or .u8 128 (bitI .and .u8 (IntKind.u8.wrap x) 63) = 128 + x % 64 := by
  rw [u8w, and63 (by omega) (by omega), or128 (by omega) (by omega)]; omega
theorem cont_c {r : Int} {c : Nat} (k : Int) (hk : (2 : Int) ^ min (6 * ((c : Int) - 1)).toNat IntKind.i32.bits = k) (h : 0 < k) : bitI .or .u8 128 (bitI .and .u8 (IntKind.u8.wrap (r.fdiv (2 ^ min (6 * ((c : Int) - 1)).toNat IntKind.i32.bits))) 63) = 128 + r / k % 64 := by rw [cont_b, hk, fdv _ h]
theorem shr6 (r : Int) : r.fdiv (2 ^ min 6 IntKind.i32.bits) = r / 64 := fdv r (by decide)
theorem shr12 (r : Int) : r.fdiv (2 ^ min 12 IntKind.i32.bits) = r / 4096 := fdv r (by decide)
theorem shr18 (r : Int) : r.fdiv (2 ^ min 18 IntKind.i32.bits) = r / 262144 := fdv r (by decide)
def encX (l : List Int) : X := .tup [.one (.sr 0), .one (.v (.raw (.int .i64 (if scal l then 0 else idxU l)))), .one (.v (.raw (.int .i64 (if scal l then 0 else 11))))]
def encR (l : List Int) : Rows := [(5, 1, bs (if scal l then encF l else []))]
theorem DBC2 : type_of% (And.intro @List.length_map.{0,0} (And.intro @bs_len @rn_len)) := ⟨@List.length_map.{0,0}, @bs_len, @rn_len⟩
set_option maxRecDepth 10000 in
theorem encode1_ok (l : List Int) (h : R32s l) (hl : l.length ≤ 2000000) : CallOk Tryz.prog 63 [sl (rn l)] (encX l) (encR l) true := by
  refine fn_ok' T_ok (orc_ok _) mixed Tryz.func63 rfl (by kernel_rfl) (lv [[0], [0, 5], [0, 5, 6], [0, 5, 6, 10], [0, 5, 6], [0, 5, 6, 18], [2, 3, 4], [0, 5, 6], [2, 3, 4]]) 28 rfl (by simp) rfl (fun _ => ⟨rfl, rows_raw⟩) ?_
  simp only [argsG, Nat.zero_add, Nat.reduceAdd]
  repeat' first
    | ((first
        | ((with_reducible refine vR_cons (by decide) ?_); generalize hk : KtR _ _ _ _ _ _ _ _ _ _ = k)
        | ((first
        | with_reducible refine vOps_cons' ?_) <;> generalize hk : Kt _ _ _ _ _ _ _ _ _ = k)) <;> (simp only [Tryz.f63, lv, E1, E2, E5, ET, T, mvB, bxB, sxB, rxB, fwd, fwds, inv, mOk, EB, simprocAttr, DBC2]; (try simp (disch := omega) only [wrap_in, Int.toNat_natCast, tv_rn]); subst hk))
    | with_reducible first | refine Kt_p ?_ | refine Kt_i (by kernel_rfl) ?_ | refine Kr_f (by kernel_rfl) ?_
    | (with_reducible refine Kr_t ?_; simp only [List.length_append, List.length_cons, List.length_nil, Nat.reduceAdd, Nat.reduceSub, List.drop_succ_cons, List.drop_zero])
    | with_reducible first | refine vR_nil ?_ | refine KtR_i (by kernel_rfl) ?_ | refine KrR_i (by kernel_rfl) ?_ | refine vR_skip (by decide) ?_
    | ((with_reducible refine vB_i ?_ ?_) <;> intro _ <;> (first | (exfalso; omega) | (exact absurd trivial ‹¬True›) | (try dsimp only [])))
    | ((with_reducible refine vOps_nil' ?_); refine Kr_i (by kernel_rfl) ?_; generalize hk : plain _ _ = G; simp only [lv, E3, E2, E5, rawX, deadX, EB, simprocAttr, DBC2] at hk; subst hk)
    | with_reducible refine vSeq_i ?_
    | with_reducible first | refine vRegion_i (by kernel_rfl) ?_ | refine Kv_i ?_
    | ((with_reducible apply vStrK_i); (focus (rfl; done)))
    | ((with_reducible refine imp_i ?_); intro _)
    | with_reducible first | refine Ks_n ?_ | refine Ks_r ?_ | refine Ks_e ?_ | refine Kl_e ?_ | refine Kx_n ?_ | refine Kl_r ?_ | refine vRet_i ?_ | refine vSkip_i ?_ | refine vExit_i ?_ | refine vBlock_i ?_ | refine Ks_p ?_ | refine Kl_p ?_ | refine blk_p ?_ | exact Kb_p | refine vGoto_i ?_ | refine vLabel_i ?_ | refine Ks_g ?_ | refine Kl_g ?_ | refine blk_g ?_ | refine jmp_g ?_ | refine jmp_n ?_ | refine jmp_r ?_ | refine nog_n ?_ | refine nog_r ?_ | refine blk_n ?_ | refine blk_r ?_ | refine blk_e ?_ | refine blk_o (by decide) ?_ | refine cp_t ?_ | refine cp_f ?_
    | ((with_reducible apply vCond_x); (focus (simp only [lv, E1, E2, E5, ET, T, mvB, bxB, sxB, rxB, fwd, fwds, inv, mOk, EB, simprocAttr, DBC2]; with_reducible first | exact Eq.refl (bo true) | exact Eq.refl (bo false))))
    | ((with_reducible refine And.intro ?_ ?_); (focus (try omega)))
  refine vLoop_s (fun k : Nat => [(.t 0, .t (sl (rn l))), (.t 5, .t (.p (.one (.sr 0)))), (.t 6, .t (i64 k)), (.row 0, .row 5 1 (bs (encF (l.take k))))]) (fun k => k ≤ l.length ∧ ∀ i, i < k → szU (l.getD i 0) ≠ 0) (fun k => l.length - k) 0 ⟨by omega, by omega⟩ rfl ?_
  rintro k ⟨hk, hlt⟩
  have hbl : (encF (l.take k)).length ≤ 4 * k := by have := encF_le (l.take k); rw [List.length_take] at this; omega
  repeat' first
    | ((first
        | ((with_reducible refine vR_cons (by decide) ?_); generalize hk : KtR _ _ _ _ _ _ _ _ _ _ = k)
        | ((first
        | with_reducible refine vOps_cons' ?_
        | ((with_reducible apply orc_i); (focus (exact size1_ok _ (h.at (by omega)); done)))
        | ((with_reducible apply orc_i); (focus (exact form_ok _ (h.at (by omega)); done)))) <;> generalize hk : Kt _ _ _ _ _ _ _ _ _ = k)) <;> (simp only [Tryz.f63, lv, E1, E2, E5, ET, T, mvB, bxB, sxB, rxB, fwd, fwds, inv, mOk, EB, simprocAttr, DBC2]; (try simp (disch := omega) only [wrap_in, Int.toNat_natCast, tv_rn]); subst hk))
    | with_reducible first | refine Kt_p ?_ | refine Kt_i (by kernel_rfl) ?_ | refine Kr_f (by kernel_rfl) ?_
    | (with_reducible refine Kr_t ?_; simp only [List.length_append, List.length_cons, List.length_nil, Nat.reduceAdd, Nat.reduceSub, List.drop_succ_cons, List.drop_zero])
    | with_reducible first | refine vR_nil ?_ | refine KtR_i (by kernel_rfl) ?_ | refine KrR_i (by kernel_rfl) ?_ | refine vR_skip (by decide) ?_
    | ((with_reducible refine vB_i ?_ ?_) <;> intro _ <;> (first | (exfalso; omega) | (exact absurd trivial ‹¬True›) | (try dsimp only [])))
    | ((with_reducible refine vOps_nil' ?_); refine Kr_i (by kernel_rfl) ?_; generalize hk : plain _ _ = G; simp only [lv, E3, E2, E5, rawX, deadX, EB, simprocAttr, DBC2] at hk; subst hk)
    | with_reducible refine vSeq_i ?_
    | with_reducible first | refine vRegion_i (by kernel_rfl) ?_ | refine Kv_i ?_
    | ((with_reducible apply vStrK_i); (focus (rfl; done)))
    | ((with_reducible refine imp_i ?_); intro _)
    | with_reducible first | refine Ks_n ?_ | refine Ks_r ?_ | refine Ks_e ?_ | refine Kl_e ?_ | refine Kx_n ?_ | refine Kl_r ?_ | refine vRet_i ?_ | refine vSkip_i ?_ | refine vExit_i ?_ | refine vBlock_i ?_ | refine Ks_p ?_ | refine Kl_p ?_ | refine blk_p ?_ | exact Kb_p | refine vGoto_i ?_ | refine vLabel_i ?_ | refine Ks_g ?_ | refine Kl_g ?_ | refine blk_g ?_ | refine jmp_g ?_ | refine jmp_n ?_ | refine jmp_r ?_ | refine nog_n ?_ | refine nog_r ?_ | refine blk_n ?_ | refine blk_r ?_ | refine blk_e ?_ | refine blk_o (by decide) ?_ | refine cp_t ?_ | refine cp_f ?_
    | ((with_reducible apply vCond_x); (focus (simp only [lv, E1, E2, E5, ET, T, mvB, bxB, sxB, rxB, fwd, fwds, inv, mOk, EB, simprocAttr, DBC2]; with_reducible first | exact Eq.refl (bo true) | exact Eq.refl (bo false))))
    | ((with_reducible refine And.intro ?_ ?_); (focus (try omega)))
  · rename_i h1 h2
    have hns : ¬ scal l := fun hs => hs k (by omega) h2
    refine Kf_r ?_
    simp only [Tryz.f63, E4, E3, E2, E5, rawX, deadX, ET, T, EB, simprocAttr, DBC2, encX, encR, if_neg hns, idxU_at hlt (by omega) h2, bs_nil]
  · rename_i h1 h2
    rw [if_neg h2]; have := form_le (l.getD k 0); omega
  · rename_i h1 h2
    refine Kl_n ⟨k + 1, ⟨by omega, fun i hi => by rcases Nat.lt_or_eq_of_le (Nat.le_of_lt_succ hi) with q | q; exact hlt i q; exact q ▸ h2⟩, by omega, ?_⟩
    rw [if_neg h2, encF_1 (by omega), bs_app]
    simp only [Int.natCast_add, Int.natCast_one]
  · rename_i h1
    have hs : scal l := fun i hi => hlt i (by omega)
    refine Kf_r ?_
    rw [List.take_of_length_le (by omega)]
    simp only [Tryz.f63, E4, E3, E2, E5, rawX, deadX, ET, T, EB, simprocAttr, DBC2, encX, encR, if_pos hs]
set_option maxRecDepth 10000 in
set_option maxHeartbeats 4000000 in
theorem encode_ok (l : List Int) (h : R32s l) (hl : l.length ≤ 2000000) : CallOk Tryz.prog 46 [sl (rn l)] (encX l) (encR l) true := by
  refine fn_ok' T_ok (orc_ok _) mixed Tryz.func46 rfl (by kernel_rfl) (lv [[0], [0, 5], [5, 13, 14, 15], [5, 13, 14, 15, 16], [5, 6, 7, 13, 14, 15], [5, 6, 7, 8, 13, 14, 15], [5, 6, 7, 8, 13, 14, 15, 22], [5, 6, 7, 8, 13, 14, 15, 22, 23], [2, 3, 4], [5, 7, 8, 13, 14, 15, 22, 26], [5, 13, 14, 15], [5, 7, 8, 13, 14, 15, 22, 33], [5, 7, 8, 13, 14, 15], [5, 7, 8, 13, 14, 15, 22, 42], [5, 7, 8, 13, 14, 15], [5, 7, 8, 13, 14, 15, 51], [5, 7, 8, 13, 14, 15], [5, 7, 9, 13, 14, 15], [5, 7, 9, 13, 14, 15, 63], [5, 7, 9, 13, 14, 15], [5, 7, 9, 13, 14, 15], [5, 13, 14, 15], [2, 3, 4]]) 78 rfl (by simp) rfl (fun _ => ⟨rfl, rows_raw⟩) ?_
  simp only [argsG, Nat.zero_add, Nat.reduceAdd]
  repeat' first
    | ((first
        | ((with_reducible refine vR_cons (by decide) ?_); generalize hk : KtR _ _ _ _ _ _ _ _ _ _ = k)
        | ((first
        | with_reducible refine vOps_cons' ?_) <;> generalize hk : Kt _ _ _ _ _ _ _ _ _ = k)) <;> (simp only [Tryz.f46, lv, E1, E2, E5, ET, T, mvB, bxB, sxB, rxB, fwd, fwds, inv, mOk, EB, simprocAttr, DBC2]; (try simp (disch := omega) only [wrap_in, Int.toNat_natCast, tv_rn]); subst hk))
    | with_reducible first | refine Kt_p ?_ | refine Kt_i (by kernel_rfl) ?_ | refine Kr_f (by kernel_rfl) ?_
    | (with_reducible refine Kr_t ?_; simp only [List.length_append, List.length_cons, List.length_nil, Nat.reduceAdd, Nat.reduceSub, List.drop_succ_cons, List.drop_zero])
    | with_reducible first | refine vR_nil ?_ | refine KtR_i (by kernel_rfl) ?_ | refine KrR_i (by kernel_rfl) ?_ | refine vR_skip (by decide) ?_
    | ((with_reducible refine vB_i ?_ ?_) <;> intro _ <;> (first | (exfalso; omega) | (exact absurd trivial ‹¬True›) | (try dsimp only [])))
    | ((with_reducible refine vOps_nil' ?_); refine Kr_i (by kernel_rfl) ?_; generalize hk : plain _ _ = G; simp only [lv, E3, E2, E5, rawX, deadX, EB, simprocAttr, DBC2] at hk; subst hk)
    | with_reducible refine vSeq_i ?_
    | with_reducible first | refine vRegion_i (by kernel_rfl) ?_ | refine Kv_i ?_
    | ((with_reducible apply vStrK_i); (focus (rfl; done)))
    | ((with_reducible refine imp_i ?_); intro _)
    | with_reducible first | refine Ks_n ?_ | refine Ks_r ?_ | refine Ks_e ?_ | refine Kl_e ?_ | refine Kx_n ?_ | refine Kl_r ?_ | refine vRet_i ?_ | refine vSkip_i ?_ | refine vExit_i ?_ | refine vBlock_i ?_ | refine Ks_p ?_ | refine Kl_p ?_ | refine blk_p ?_ | exact Kb_p | refine vGoto_i ?_ | refine vLabel_i ?_ | refine Ks_g ?_ | refine Kl_g ?_ | refine blk_g ?_ | refine jmp_g ?_ | refine jmp_n ?_ | refine jmp_r ?_ | refine nog_n ?_ | refine nog_r ?_ | refine blk_n ?_ | refine blk_r ?_ | refine blk_e ?_ | refine blk_o (by decide) ?_ | refine cp_t ?_ | refine cp_f ?_
    | ((with_reducible apply vCond_x); (focus (simp only [lv, E1, E2, E5, ET, T, mvB, bxB, sxB, rxB, fwd, fwds, inv, mOk, EB, simprocAttr, DBC2]; with_reducible first | exact Eq.refl (bo true) | exact Eq.refl (bo false))))
    | ((with_reducible refine And.intro ?_ ?_); (focus (try omega)))
  refine vLoop_s (fun k : Nat => [(.t 5, .t (.p (.one (.sr 0)))), (.t 13, .t (sl (rn l))), (.t 14, .t (i64 l.length)), (.t 15, .t (i64 k)), (.row 0, .row 5 1 (bs (encF (l.take k))))]) (fun k => k ≤ l.length ∧ ∀ i, i < k → szU (l.getD i 0) ≠ 0) (fun k => l.length - k) 0 ⟨by omega, by omega⟩ rfl ?_
  rintro k ⟨hk, hlt⟩
  have hbl : (encF (l.take k)).length ≤ 4 * k := by have := encF_le (l.take k); rw [List.length_take] at this; omega
  repeat' first
    | ((first
        | ((with_reducible refine vR_cons (by decide) ?_); generalize hk : KtR _ _ _ _ _ _ _ _ _ _ = k)
        | ((first
        | with_reducible refine vOps_cons' ?_
        | ((with_reducible apply orc_i); (focus (exact size_ok _ (h.at (by omega)); done)))) <;> generalize hk : Kt _ _ _ _ _ _ _ _ _ = k)) <;> (simp only [Tryz.f46, lv, E1, E2, E5, ET, T, mvB, bxB, sxB, rxB, fwd, fwds, inv, mOk, EB, simprocAttr, DBC2]; (try simp (disch := omega) only [wrap_in, Int.toNat_natCast, tv_rn]); subst hk))
    | with_reducible first | refine Kt_p ?_ | refine Kt_i (by kernel_rfl) ?_ | refine Kr_f (by kernel_rfl) ?_
    | (with_reducible refine Kr_t ?_; simp only [List.length_append, List.length_cons, List.length_nil, Nat.reduceAdd, Nat.reduceSub, List.drop_succ_cons, List.drop_zero])
    | with_reducible first | refine vR_nil ?_ | refine KtR_i (by kernel_rfl) ?_ | refine KrR_i (by kernel_rfl) ?_ | refine vR_skip (by decide) ?_
    | ((with_reducible refine vB_i ?_ ?_) <;> intro _ <;> (first | (exfalso; omega) | (exact absurd trivial ‹¬True›) | (try dsimp only [])))
    | ((with_reducible refine vOps_nil' ?_); refine Kr_i (by kernel_rfl) ?_; generalize hk : plain _ _ = G; simp only [lv, E3, E2, E5, rawX, deadX, EB, simprocAttr, DBC2] at hk; subst hk)
    | with_reducible refine vSeq_i ?_
    | with_reducible first | refine vRegion_i (by kernel_rfl) ?_ | refine Kv_i ?_
    | ((with_reducible apply vStrK_i); (focus (rfl; done)))
    | ((with_reducible refine imp_i ?_); intro _)
    | with_reducible first | refine Ks_n ?_ | refine Ks_r ?_ | refine Ks_e ?_ | refine Kl_e ?_ | refine Kx_n ?_ | refine Kl_r ?_ | refine vRet_i ?_ | refine vSkip_i ?_ | refine vExit_i ?_ | refine vBlock_i ?_ | refine Ks_p ?_ | refine Kl_p ?_ | refine blk_p ?_ | exact Kb_p | refine vGoto_i ?_ | refine vLabel_i ?_ | refine Ks_g ?_ | refine Kl_g ?_ | refine blk_g ?_ | refine jmp_g ?_ | refine jmp_n ?_ | refine jmp_r ?_ | refine nog_n ?_ | refine nog_r ?_ | refine blk_n ?_ | refine blk_r ?_ | refine blk_e ?_ | refine blk_o (by decide) ?_ | refine cp_t ?_ | refine cp_f ?_
    | ((with_reducible apply vCond_x); (focus (simp only [lv, E1, E2, E5, ET, T, mvB, bxB, sxB, rxB, fwd, fwds, inv, mOk, EB, simprocAttr, DBC2]; with_reducible first | exact Eq.refl (bo true) | exact Eq.refl (bo false))))
    | ((with_reducible refine And.intro ?_ ?_); (focus (try omega)))
  all_goals try omega
  · rename_i h1 h2
    have hns : ¬ scal l := fun hs => hs k (by omega) h2
    refine Kf_r ?_
    simp only [Tryz.f46, E4, E3, E2, E5, rawX, deadX, ET, T, EB, simprocAttr, DBC2, encX, encR, if_neg hns, idxU_at hlt (by omega) h2, bs_nil]
  · rename_i h1 h2 h3
    refine Kl_n ⟨k + 1, ⟨by omega, fun i hi => by rcases Nat.lt_or_eq_of_le (Nat.le_of_lt_succ hi) with q | q; exact hlt i q; exact q ▸ h2⟩, by omega, ?_⟩
    have hr := szU_1 h3
    rw [encF_1 (by omega), form_1 h3, bs_app, u8in (by omega) (by omega)]
    simp only [Int.natCast_add, Int.natCast_one]
    rfl
  · have hz : szU (l.getD k 0) = 2 := by assumption
    have hr := szU_2 hz
    rw [shr6, u8in (by omega) (by omega), or192 (by omega) (by omega)]
    refine vLoop_s (fun c : Nat => [(.t 5, .t (.p (.one (.sr 0)))), (.t 7, .t (i32 (l.getD k 0))), (.t 9, .t (i64 ((c : Int) - 1))), (.t 13, .t (sl (rn l))), (.t 14, .t (i64 l.length)), (.t 15, .t (i64 k)), (.row 0, .row 5 1 (bs (encF (l.take k)) ++ bs ((formF (l.getD k 0)).take (2 - c))))]) (fun c => c ≤ 1) (fun c => c) 1 (by omega) (by rw [hz, form_2 hz]; rfl) ?_
    intro c hc
    repeat' first
      | ((first
          | ((with_reducible refine vR_cons (by decide) ?_); generalize hk : KtR _ _ _ _ _ _ _ _ _ _ = k)
          | ((first
          | with_reducible refine vOps_cons' ?_) <;> generalize hk : Kt _ _ _ _ _ _ _ _ _ = k)) <;> (simp only [Tryz.f46, lv, E1, E2, E5, ET, T, mvB, bxB, sxB, rxB, fwd, fwds, inv, mOk, EB, simprocAttr, DBC2]; (try simp (disch := omega) only [wrap_in, Int.toNat_natCast, tv_rn]); subst hk))
      | with_reducible first | refine Kt_p ?_ | refine Kt_i (by kernel_rfl) ?_ | refine Kr_f (by kernel_rfl) ?_
      | (with_reducible refine Kr_t ?_; simp only [List.length_append, List.length_cons, List.length_nil, Nat.reduceAdd, Nat.reduceSub, List.drop_succ_cons, List.drop_zero])
      | with_reducible first | refine vR_nil ?_ | refine KtR_i (by kernel_rfl) ?_ | refine KrR_i (by kernel_rfl) ?_ | refine vR_skip (by decide) ?_
      | ((with_reducible refine vB_i ?_ ?_) <;> intro _ <;> (first | (exfalso; omega) | (exact absurd trivial ‹¬True›) | (try dsimp only [])))
      | ((with_reducible refine vOps_nil' ?_); refine Kr_i (by kernel_rfl) ?_; generalize hk : plain _ _ = G; simp only [lv, E3, E2, E5, rawX, deadX, EB, simprocAttr, DBC2] at hk; subst hk)
      | with_reducible refine vSeq_i ?_
      | with_reducible first | refine vRegion_i (by kernel_rfl) ?_ | refine Kv_i ?_
      | ((with_reducible apply vStrK_i); (focus (rfl; done)))
      | ((with_reducible refine imp_i ?_); intro _)
      | with_reducible first | refine Ks_n ?_ | refine Ks_r ?_ | refine Ks_e ?_ | refine Kl_e ?_ | refine Kx_n ?_ | refine Kl_r ?_ | refine vRet_i ?_ | refine vSkip_i ?_ | refine vExit_i ?_ | refine vBlock_i ?_ | refine Ks_p ?_ | refine Kl_p ?_ | refine blk_p ?_ | exact Kb_p | refine vGoto_i ?_ | refine vLabel_i ?_ | refine Ks_g ?_ | refine Kl_g ?_ | refine blk_g ?_ | refine jmp_g ?_ | refine jmp_n ?_ | refine jmp_r ?_ | refine nog_n ?_ | refine nog_r ?_ | refine blk_n ?_ | refine blk_r ?_ | refine blk_e ?_ | refine blk_o (by decide) ?_ | refine cp_t ?_ | refine cp_f ?_
      | ((with_reducible apply vCond_x); (focus (simp only [lv, E1, E2, E5, ET, T, mvB, bxB, sxB, rxB, fwd, fwds, inv, mOk, EB, simprocAttr, DBC2]; with_reducible first | exact Eq.refl (bo true) | exact Eq.refl (bo false))))
      | ((with_reducible refine And.intro ?_ ?_); (focus (try omega)))
    all_goals try (simp only [cnt, List.length_append, List.length_cons, List.length_nil, bs_len, List.length_take]; omega)
    · have hc1 : 1 ≤ c := by omega
      refine Kl_n ⟨c - 1, by omega, by omega, ?_⟩
      have e9 : ((c - 1 : Nat) : Int) - 1 = (c : Int) - 1 - 1 := by omega
      rw [e9, List.append_assoc]
      have eb : bs ((formF (l.getD k 0)).take (2 - c)) ++ [SV.raw (.int .u8 (bitI .or .u8 128 (bitI .and .u8 (IntKind.u8.wrap ((l.getD k 0).fdiv (2 ^ min (6 * ((c : Int) - 1)).toNat IntKind.i32.bits))) 63)))] = bs ((formF (l.getD k 0)).take (2 - (c - 1))) := by
        have : c = 1 := by omega
        subst this
        · rw [cont_c 1 rfl (by decide), Int.ediv_one, form_2 hz]; rfl
      rw [eb]
    · have hc0 : c = 0 := by omega
      subst hc0
      refine Kl_n ⟨k + 1, ⟨by omega, fun i hi => by rcases Nat.lt_or_eq_of_le (Nat.le_of_lt_succ hi) with q | q; exact hlt i q; rw [q, hz]; decide⟩, by omega, ?_⟩
      have eT : (formF (l.getD k 0)).take (2 - 0) = formF (l.getD k 0) := List.take_of_length_le (by rw [form_2 hz]; simp)
      rw [encF_1 (by omega), bs_app, eT]
      simp only [Int.natCast_add, Int.natCast_one]
  · have hz : szU (l.getD k 0) = 3 := by assumption
    have hr := szU_3 hz
    rw [shr12, u8in (by omega) (by omega), or224 (by omega) (by omega)]
    refine vLoop_s (fun c : Nat => [(.t 5, .t (.p (.one (.sr 0)))), (.t 7, .t (i32 (l.getD k 0))), (.t 9, .t (i64 ((c : Int) - 1))), (.t 13, .t (sl (rn l))), (.t 14, .t (i64 l.length)), (.t 15, .t (i64 k)), (.row 0, .row 5 1 (bs (encF (l.take k)) ++ bs ((formF (l.getD k 0)).take (3 - c))))]) (fun c => c ≤ 2) (fun c => c) 2 (by omega) (by rw [hz, form_3 hz]; rfl) ?_
    intro c hc
    repeat' first
      | ((first
          | ((with_reducible refine vR_cons (by decide) ?_); generalize hk : KtR _ _ _ _ _ _ _ _ _ _ = k)
          | ((first
          | with_reducible refine vOps_cons' ?_) <;> generalize hk : Kt _ _ _ _ _ _ _ _ _ = k)) <;> (simp only [Tryz.f46, lv, E1, E2, E5, ET, T, mvB, bxB, sxB, rxB, fwd, fwds, inv, mOk, EB, simprocAttr, DBC2]; (try simp (disch := omega) only [wrap_in, Int.toNat_natCast, tv_rn]); subst hk))
      | with_reducible first | refine Kt_p ?_ | refine Kt_i (by kernel_rfl) ?_ | refine Kr_f (by kernel_rfl) ?_
      | (with_reducible refine Kr_t ?_; simp only [List.length_append, List.length_cons, List.length_nil, Nat.reduceAdd, Nat.reduceSub, List.drop_succ_cons, List.drop_zero])
      | with_reducible first | refine vR_nil ?_ | refine KtR_i (by kernel_rfl) ?_ | refine KrR_i (by kernel_rfl) ?_ | refine vR_skip (by decide) ?_
      | ((with_reducible refine vB_i ?_ ?_) <;> intro _ <;> (first | (exfalso; omega) | (exact absurd trivial ‹¬True›) | (try dsimp only [])))
      | ((with_reducible refine vOps_nil' ?_); refine Kr_i (by kernel_rfl) ?_; generalize hk : plain _ _ = G; simp only [lv, E3, E2, E5, rawX, deadX, EB, simprocAttr, DBC2] at hk; subst hk)
      | with_reducible refine vSeq_i ?_
      | with_reducible first | refine vRegion_i (by kernel_rfl) ?_ | refine Kv_i ?_
      | ((with_reducible apply vStrK_i); (focus (rfl; done)))
      | ((with_reducible refine imp_i ?_); intro _)
      | with_reducible first | refine Ks_n ?_ | refine Ks_r ?_ | refine Ks_e ?_ | refine Kl_e ?_ | refine Kx_n ?_ | refine Kl_r ?_ | refine vRet_i ?_ | refine vSkip_i ?_ | refine vExit_i ?_ | refine vBlock_i ?_ | refine Ks_p ?_ | refine Kl_p ?_ | refine blk_p ?_ | exact Kb_p | refine vGoto_i ?_ | refine vLabel_i ?_ | refine Ks_g ?_ | refine Kl_g ?_ | refine blk_g ?_ | refine jmp_g ?_ | refine jmp_n ?_ | refine jmp_r ?_ | refine nog_n ?_ | refine nog_r ?_ | refine blk_n ?_ | refine blk_r ?_ | refine blk_e ?_ | refine blk_o (by decide) ?_ | refine cp_t ?_ | refine cp_f ?_
      | ((with_reducible apply vCond_x); (focus (simp only [lv, E1, E2, E5, ET, T, mvB, bxB, sxB, rxB, fwd, fwds, inv, mOk, EB, simprocAttr, DBC2]; with_reducible first | exact Eq.refl (bo true) | exact Eq.refl (bo false))))
      | ((with_reducible refine And.intro ?_ ?_); (focus (try omega)))
    all_goals try (simp only [cnt, List.length_append, List.length_cons, List.length_nil, bs_len, List.length_take]; omega)
    · have hc1 : 1 ≤ c := by omega
      refine Kl_n ⟨c - 1, by omega, by omega, ?_⟩
      have e9 : ((c - 1 : Nat) : Int) - 1 = (c : Int) - 1 - 1 := by omega
      rw [e9, List.append_assoc]
      have eb : bs ((formF (l.getD k 0)).take (3 - c)) ++ [SV.raw (.int .u8 (bitI .or .u8 128 (bitI .and .u8 (IntKind.u8.wrap ((l.getD k 0).fdiv (2 ^ min (6 * ((c : Int) - 1)).toNat IntKind.i32.bits))) 63)))] = bs ((formF (l.getD k 0)).take (3 - (c - 1))) := by
        rcases (by omega : c = 1 ∨ c = 2) with rfl | rfl
        · rw [cont_c 1 rfl (by decide), Int.ediv_one, form_3 hz]; rfl
        · rw [cont_c 64 rfl (by decide), form_3 hz]; rfl
      rw [eb]
    · have hc0 : c = 0 := by omega
      subst hc0
      refine Kl_n ⟨k + 1, ⟨by omega, fun i hi => by rcases Nat.lt_or_eq_of_le (Nat.le_of_lt_succ hi) with q | q; exact hlt i q; rw [q, hz]; decide⟩, by omega, ?_⟩
      have eT : (formF (l.getD k 0)).take (3 - 0) = formF (l.getD k 0) := List.take_of_length_le (by rw [form_3 hz]; simp)
      rw [encF_1 (by omega), bs_app, eT]
      simp only [Int.natCast_add, Int.natCast_one]
  · have hz : szU (l.getD k 0) = 4 := by assumption
    have hr := szU_4 hz
    rw [shr18, u8in (by omega) (by omega), or240 (by omega) (by omega)]
    refine vLoop_s (fun c : Nat => [(.t 5, .t (.p (.one (.sr 0)))), (.t 7, .t (i32 (l.getD k 0))), (.t 9, .t (i64 ((c : Int) - 1))), (.t 13, .t (sl (rn l))), (.t 14, .t (i64 l.length)), (.t 15, .t (i64 k)), (.row 0, .row 5 1 (bs (encF (l.take k)) ++ bs ((formF (l.getD k 0)).take (4 - c))))]) (fun c => c ≤ 3) (fun c => c) 3 (by omega) (by rw [hz, form_4 hz]; rfl) ?_
    intro c hc
    repeat' first
      | ((first
          | ((with_reducible refine vR_cons (by decide) ?_); generalize hk : KtR _ _ _ _ _ _ _ _ _ _ = k)
          | ((first
          | with_reducible refine vOps_cons' ?_) <;> generalize hk : Kt _ _ _ _ _ _ _ _ _ = k)) <;> (simp only [Tryz.f46, lv, E1, E2, E5, ET, T, mvB, bxB, sxB, rxB, fwd, fwds, inv, mOk, EB, simprocAttr, DBC2]; (try simp (disch := omega) only [wrap_in, Int.toNat_natCast, tv_rn]); subst hk))
      | with_reducible first | refine Kt_p ?_ | refine Kt_i (by kernel_rfl) ?_ | refine Kr_f (by kernel_rfl) ?_
      | (with_reducible refine Kr_t ?_; simp only [List.length_append, List.length_cons, List.length_nil, Nat.reduceAdd, Nat.reduceSub, List.drop_succ_cons, List.drop_zero])
      | with_reducible first | refine vR_nil ?_ | refine KtR_i (by kernel_rfl) ?_ | refine KrR_i (by kernel_rfl) ?_ | refine vR_skip (by decide) ?_
      | ((with_reducible refine vB_i ?_ ?_) <;> intro _ <;> (first | (exfalso; omega) | (exact absurd trivial ‹¬True›) | (try dsimp only [])))
      | ((with_reducible refine vOps_nil' ?_); refine Kr_i (by kernel_rfl) ?_; generalize hk : plain _ _ = G; simp only [lv, E3, E2, E5, rawX, deadX, EB, simprocAttr, DBC2] at hk; subst hk)
      | with_reducible refine vSeq_i ?_
      | with_reducible first | refine vRegion_i (by kernel_rfl) ?_ | refine Kv_i ?_
      | ((with_reducible apply vStrK_i); (focus (rfl; done)))
      | ((with_reducible refine imp_i ?_); intro _)
      | with_reducible first | refine Ks_n ?_ | refine Ks_r ?_ | refine Ks_e ?_ | refine Kl_e ?_ | refine Kx_n ?_ | refine Kl_r ?_ | refine vRet_i ?_ | refine vSkip_i ?_ | refine vExit_i ?_ | refine vBlock_i ?_ | refine Ks_p ?_ | refine Kl_p ?_ | refine blk_p ?_ | exact Kb_p | refine vGoto_i ?_ | refine vLabel_i ?_ | refine Ks_g ?_ | refine Kl_g ?_ | refine blk_g ?_ | refine jmp_g ?_ | refine jmp_n ?_ | refine jmp_r ?_ | refine nog_n ?_ | refine nog_r ?_ | refine blk_n ?_ | refine blk_r ?_ | refine blk_e ?_ | refine blk_o (by decide) ?_ | refine cp_t ?_ | refine cp_f ?_
      | ((with_reducible apply vCond_x); (focus (simp only [lv, E1, E2, E5, ET, T, mvB, bxB, sxB, rxB, fwd, fwds, inv, mOk, EB, simprocAttr, DBC2]; with_reducible first | exact Eq.refl (bo true) | exact Eq.refl (bo false))))
      | ((with_reducible refine And.intro ?_ ?_); (focus (try omega)))
    all_goals try (simp only [cnt, List.length_append, List.length_cons, List.length_nil, bs_len, List.length_take]; omega)
    · have hc1 : 1 ≤ c := by omega
      refine Kl_n ⟨c - 1, by omega, by omega, ?_⟩
      have e9 : ((c - 1 : Nat) : Int) - 1 = (c : Int) - 1 - 1 := by omega
      rw [e9, List.append_assoc]
      have eb : bs ((formF (l.getD k 0)).take (4 - c)) ++ [SV.raw (.int .u8 (bitI .or .u8 128 (bitI .and .u8 (IntKind.u8.wrap ((l.getD k 0).fdiv (2 ^ min (6 * ((c : Int) - 1)).toNat IntKind.i32.bits))) 63)))] = bs ((formF (l.getD k 0)).take (4 - (c - 1))) := by
        rcases (by omega : c = 1 ∨ c = 2 ∨ c = 3) with rfl | rfl | rfl
        · rw [cont_c 1 rfl (by decide), Int.ediv_one, form_4 hz]; rfl
        · rw [cont_c 64 rfl (by decide), form_4 hz]; rfl
        · rw [cont_c 4096 rfl (by decide), form_4 hz]; rfl
      rw [eb]
    · have hc0 : c = 0 := by omega
      subst hc0
      refine Kl_n ⟨k + 1, ⟨by omega, fun i hi => by rcases Nat.lt_or_eq_of_le (Nat.le_of_lt_succ hi) with q | q; exact hlt i q; rw [q, hz]; decide⟩, by omega, ?_⟩
      have eT : (formF (l.getD k 0)).take (4 - 0) = formF (l.getD k 0) := List.take_of_length_le (by rw [form_4 hz]; simp)
      rw [encF_1 (by omega), bs_app, eT]
      simp only [Int.natCast_add, Int.natCast_one]
  · exfalso
    have := szU_le (l.getD k 0)
    omega
  · rename_i h1
    have hs : scal l := fun i hi => hlt i (by omega)
    refine Kf_r ?_
    rw [List.take_of_length_le (by omega)]
    simp only [Tryz.f46, E4, E3, E2, E5, rawX, deadX, ET, T, EB, simprocAttr, DBC2, encX, encR, if_pos hs]
end Go.Proofs.YtdpflafjfkooeaaGreatDoorG
namespace Go.Proofs.YtdpflafjfkooeaaGreatDoorG
open Go Go.RowKit Go.Proofs Go.Proofs.YtdpflafjfkooeaaGreatDoorG.Dec
set_option linter.unusedSimpArgs false
set_option linter.unusedVariables false
theorem cut_bs2 {l : List Int} {a b : Int} (h0 : 0 ≤ a) (h1 : a ≤ b) : cutSV 1 (bs l) a b = bs ((l.drop a.toNat).take (b - a).toNat) := by simp [cutSV, bs, List.map_drop, List.map_take]
/-- The number that k + 1 bytes would be. -/
def accV (h : Int) (l : List Int) : Nat → Int
  | 0 => rd l 0 - h
  | k + 1 => accV h l k * 64 + rd l ((k + 1 : Nat) : Int) - 128
def hdV (n : Nat) : Int := if n = 1 then 0 else if n = 2 then 192 else if n = 3 then 224 else 240
theorem accV_val (l : List Int) (n : Nat) (h1 : 1 ≤ n) (h4 : n ≤ 4) : accV (hdV n) l (n - 1) = valR l n := by
  have : n = 1 ∨ n = 2 ∨ n = 3 ∨ n = 4 := by omega
  rcases this with rfl | rfl | rfl | rfl
  · simp [accV, hdV, valR]
  · simp [accV, hdV, valR]
  · simp [accV, hdV, valR]
  · simp [accV, hdV, valR]
theorem rd_at {l : List Int} {a j : Nat} : rd (l.drop a) (j : Int) = l.getD (a + j) 0 := by
  simp [rd, List.getD, List.getElem?_drop]
theorem by_bd {l : List Int} (hb : Bytes l) (i : Nat) : 0 ≤ l.getD i 0 ∧ l.getD i 0 ≤ 255 := by
  by_cases h : i < l.length
  · rw [show l.getD i 0 = l[i] by simp [List.getD, List.getElem?_eq_getElem h]]; exact hb _ (List.getElem_mem h)
  · rw [show l.getD i 0 = 0 by simp [List.getD, List.getElem?_eq_none (Nat.le_of_not_lt h)]]; omega
theorem rd_bd {l : List Int} (hb : Bytes l) (i : Int) : 0 ≤ rd l i ∧ rd l i ≤ 255 := by_bd hb _
theorem accV_bd {l : List Int} (hb : Bytes l) {h : Int} (h0 : 0 ≤ h) (h1 : h ≤ 240) : ∀ k, k ≤ 3 → -100000000 ≤ accV h l k ∧ accV h l k ≤ 100000000 := by
  have b := rd_bd hb
  have b0 := b 0; have b1 := b 1; have b2 := b 2; have b3 := b 3
  intro k hk
  have : k = 0 ∨ k = 1 ∨ k = 2 ∨ k = 3 := by omega
  rcases this with rfl | rfl | rfl | rfl
  all_goals (have e1 : (((0 : Nat) + 1 : Nat) : Int) = 1 := rfl; have e2 : (((1 : Nat) + 1 : Nat) : Int) = 2 := rfl; have e3 : (((2 : Nat) + 1 : Nat) : Int) = 3 := rfl; simp only [accV, e1, e2, e3]; omega)
theorem hdV_bd (n : Nat) : 0 ≤ hdV n ∧ hdV n ≤ 240 := by unfold hdV; (repeat' split) <;> omega
theorem valR_bd {l : List Int} (hb : Bytes l) {n : Nat} (h1 : 1 ≤ n) (h4 : n ≤ 4) : R32 (valR l n) := by
  have := accV_bd hb (hdV_bd n).1 (hdV_bd n).2 (n - 1) (by omega)
  rw [accV_val l n h1 h4] at this
  exact ⟨by omega, by omega⟩
theorem form_F {r : Int} (h : szU r ≠ 0) : Dec.form r = formF r := by
  unfold Dec.form formF
  rcases size_range r with h1 | h1 | h1 | h1 | h1
  · exact absurd h1 h
  · have := size_one h1; rw [if_pos h1, if_pos (by omega)]
  · have := size_two h1; rw [if_neg (by omega), if_pos h1, if_neg (by omega), if_pos (by omega)]
  · have := size_three h1; rw [if_neg (by omega), if_neg (by omega), if_pos h1, if_neg (by omega), if_neg (by omega), if_pos (by omega)]
  · have := size_four h1; rw [if_neg (by omega), if_neg (by omega), if_neg (by omega), if_pos h1, if_neg (by omega), if_neg (by omega), if_neg (by omega)]
theorem forms_F {l : List Int} (h : Gd l) : forms l = encF l := by
  induction l with
  | nil => rfl
  | cons r l ih =>
    rw [forms_cons, ih fun x hx => h x (by simp [hx]), form_F (h r (by simp))]; rfl
theorem gd_scal (l : List Int) : Gd l ↔ scal l := by
  constructor
  · intro h i hi
    rw [show l.getD i 0 = l[i] by simp [List.getD, List.getElem?_eq_getElem hi]]; exact h _ (List.getElem_mem hi)
  · intro h r hr
    obtain ⟨i, hi, rfl⟩ := List.getElem_of_mem hr
    have := h i hi
    rwa [show l.getD i 0 = l[i] by simp [List.getD, List.getElem?_eq_getElem hi]] at this
abbrev decX (l : List Int) : X := .tup [.one (.sr 0), .one (.v (.raw (.int .i64 (dec l).2.1))), .one (.v (.raw (.int .i64 (dec l).2.2)))]
theorem dec_step {l : List Int} {d a : Nat} {acc : List Int} (h : l.length - a ≤ d + 1) (ha : a < l.length) : decR (d + 1) (l.drop a) acc a = if (nx (l.drop a)).2 = 0 then ([], (a : Int), 10) else decR d (l.drop (a + (nx (l.drop a)).2.toNat)) (acc ++ [(nx (l.drop a)).1]) (a + (nx (l.drop a)).2.toNat) := by
  have hne : ¬ l.drop a = [] := fun e => by have := congrArg List.length e; simp at this; omega
  rw [decR, if_neg hne, List.drop_drop]
theorem dec_done {l : List Int} {d a : Nat} {acc : List Int} (ha : l.length ≤ a) : decR d (l.drop a) acc a = (acc, 0, 0) := by
  have : l.drop a = [] := List.drop_eq_nil_of_le ha
  cases d with
  | zero => rfl
  | succ d => rw [decR, if_pos this]
/-- How far a text is read. -/
structure DecI (l : List Int) (s : Nat × List Int) : Prop where
  le : s.1 ≤ l.length
  len : s.2.length ≤ s.1
  rest : decR (l.length - s.1) (l.drop s.1) s.2 s.1 = dec l
theorem DecI.init (l : List Int) : DecI l (0, []) := ⟨by simp, by simp, by simp [dec]⟩
theorem DecI.stop {l s} (h : DecI l s) (hs : s.1 < l.length) (hz : (nx (l.drop s.1)).2 = 0) : dec l = ([], (s.1 : Int), 10) := by
  obtain ⟨d, hd⟩ : ∃ d, l.length - s.1 = d + 1 := ⟨l.length - s.1 - 1, by omega⟩
  have := h.rest
  rw [hd, dec_step (by omega) hs, if_pos hz] at this
  exact this.symm
theorem DecI.last {l s} (h : DecI l s) (hs : l.length ≤ s.1) : dec l = (s.2, 0, 0) := by rw [← h.rest, dec_done hs]
theorem nx_rng {l : List Int} (hz : ¬ (nx l).2 = 0) : 1 ≤ (nx l).2 ∧ (nx l).2 ≤ 4 ∧ (nx l).2 ≤ l.length := (nx_range (l := l)).2 hz
theorem decR_fuel {l : List Int} : ∀ (d e a : Nat) (acc : List Int), l.length - a ≤ d → l.length - a ≤ e → decR d (l.drop a) acc a = decR e (l.drop a) acc a := by
  intro d
  induction d with
  | zero => intro e a acc h1 h2; rw [dec_done (by omega), dec_done (by omega)]
  | succ d ih =>
    intro e a acc h1 h2
    by_cases ha : a < l.length
    · obtain ⟨e, rfl⟩ : ∃ k, e = k + 1 := ⟨e - 1, by omega⟩
      rw [dec_step h1 ha, dec_step h2 ha]
      by_cases hz : (nx (l.drop a)).2 = 0
      · rw [if_pos hz, if_pos hz]
      · rw [if_neg hz, if_neg hz]
        have := nx_rng hz
        exact ih _ _ _ (by omega) (by omega)
    · rw [dec_done (by omega), dec_done (by omega)]
theorem DecI.next {l s} (h : DecI l s) (hs : s.1 < l.length) (hz : ¬ (nx (l.drop s.1)).2 = 0) : DecI l (s.1 + (nx (l.drop s.1)).2.toNat, s.2 ++ [(nx (l.drop s.1)).1]) := by
  have hr := nx_rng hz
  rw [List.length_drop] at hr
  have hl := h.len
  obtain ⟨d, hd⟩ : ∃ d, l.length - s.1 = d + 1 := ⟨l.length - s.1 - 1, by omega⟩
  refine ⟨by simp only []; omega, by simp only [List.length_append, List.length_cons, List.length_nil]; omega, ?_⟩
  have := h.rest
  rw [hd, dec_step (by omega) hs, if_neg hz] at this
  rw [← this]
  exact decR_fuel _ _ _ _ (by omega) (by omega)
theorem nx_bd {l : List Int} (hb : Bytes l) : R32 (nx l).1 ∧ 0 ≤ (nx l).2 ∧ (nx l).2 ≤ 4 := by
  rcases nx_cases l with ⟨n, hn, he⟩ | ⟨_, he⟩
  · have := is_range hn
    rw [he, ← is_val l hb n hn]
    exact ⟨valR_bd hb this.1 this.2.1, by simp only []; omega, by simp only []; omega⟩
  · rw [he]; exact ⟨⟨by simp, by simp⟩, by simp, by simp⟩
end Go.Proofs.YtdpflafjfkooeaaGreatDoorG
/- G18: a function whose body ends in a scope with a label. -/
namespace Go.Proofs.YtdpflafjfkooeaaGreatDoorG
open Go Go.RowKit
set_option linter.unusedVariables false
set_option linter.unusedSimpArgs false
/-- A function whose body ends in a scope with one label. -/
theorem fn_okS2 {P : Program} {T : Tab} {O : Orc} (hT : Tok P T) (hO : OrcOk P O) (hm : P.follows .mixedOrders = true) {f : Nat} {fn : Func} {x c rest : Code} {l : Nat} (hf : P.funcs[f]? = some fn) (hb : fn.body = some (.seq x (.scope c))) (hl : findLabel c l = some rest) (hcb : callableB fn = true) (vars : Nat → List Nat) (nt : Nat) (hnt : fn.ntmps = nt)
    {args : List X} {res : X} {rows : Rows} {fr : Bool} (hn : args.length ≤ nt) (hres : res.all TV.res = true) (hfr : fr = true → res.all TV.rawR = true ∧ ∀ r ∈ rows, ∀ x ∈ r.2.2, x.isRaw = true)
    (h : vCode T O nt vars x (argsG 0 args) (GEx.seq (fun G1 => vCode T O nt vars c G1 (GEx.jmp l (fun G' => vCode T O nt vars rest G' (GEx.nog (Kf T fn.results.toList res rows))) (Kf T fn.results.toList res rows))) (GEx.nog (Kf T fn.results.toList res rows)))) : CallOk P f args res rows fr := by
  subst hnt
  refine ⟨callable_of hf hcb, hres, hfr, fun w vs g hg hlt hgr hall => ?_⟩
  refine callsIn_wide.1 (callsIn_of_wp_marks (F := Fence.wide) (n := 0) hf hb trivial ?_)
  have hvl : vs.length = args.length := hall.1
  have r0 : Rel (look (argsG 0 args)) fn.ntmps { tmps := vs.toArray ++ Array.replicate (fn.ntmps - vs.toArray.size) undef, defers := [] } w g := by
    refine ⟨by simp; omega, rfl, hlt, hgr, fun n => ?_⟩
    cases n with
    | t i =>
      rcases look_argsG_t (args := args) (k := 0) (i := i) with h1 | ⟨x, h1⟩
      · rw [h1]; trivial
      · rw [h1]
        obtain ⟨v, e1, _, e3⟩ := look_argsG hall x h1
        have hi : i < vs.length := (List.getElem?_eq_some_iff.1 e1).1
        have : (vs.toArray ++ Array.replicate (fn.ntmps - vs.toArray.size) undef).getD i undef = v := by
          simp only [Nat.sub_zero] at e1
          simp [Array.getD_eq_getD_getElem?, Array.getElem?_append, hi]
          rw [List.getElem?_eq_getElem hi] at e1
          exact Option.some.inj e1
        show XR w g _ x
        rw [this]
        exact e3
    | row k => rw [look_argsG_other (by simp)]; trivial
    | box k => rw [look_argsG_other (by simp)]; trivial
  have env0 : Env w.heap.size none [] w g := ⟨Nat.le_refl _, fun l hl => by (cases hl), fun d hd => absurd hd (by simp), List.nodup_nil⟩
  have hend : ∀ (e : GEx) (G' : List (Nm × C)) (a' : Act) (w' : World) (g' : Gh) (ds' : List Deferred), (∀ l, e ≠ .goto l) → Kf T fn.results.toList res rows e G' → Rel (look G') fn.ntmps a' w' g' → Fr w w' g.o g'.o → Env w.heap.size none ds' w' g' →
      bodyPostM Fence.wide 0 P fn (fun e w' => ∃ v g', e = .returned v ∧ Fr w w' g.o g'.o ∧ (∀ b, g'.o b ≠ .other → b < w'.heap.size) ∧ XR w' g' v res ∧ ∀ k ty e xs, rows[k]? = some (ty, e, xs) → RowR w' g' k ty e xs) e.ex (shA ds' a') w' := fun e G' a' w' g' ds' hne hq r' f' env' => by
    obtain ⟨he, hv⟩ := hq
    have key := leaves_marks (P := P) (fn := fn) (R := fun e w' => ∃ v g', e = .returned v ∧ Fr w w' g.o g'.o ∧ (∀ b, g'.o b ≠ .other → b < w'.heap.size) ∧ XR w' g' v res ∧ ∀ k ty e xs, rows[k]? = some (ty, e, xs) → RowR w' g' k ty e xs) ds' r' f' env' fun w' g' r' f' => by
      unfold vRes at hv
      split at hv
      · rename_i x hx
        obtain ⟨hm1, hm2, hv⟩ := hv
        split at hv
        · rename_i rows' hrows
          obtain ⟨rfl, rfl⟩ := hv
          obtain ⟨v, h1, h2⟩ := resX_run hT r' hx
          refine ⟨v, h1, v, g'.ren (resM x), rfl, f'.trans (Fr.ren _ _ _), (r'.ren hm1).tags, ren_xr hm1 h2, fun k ty e xs hk => ?_⟩
          obtain ⟨hh, hmem, hrow⟩ := rowsAt_get hrows hm2 k ty e xs hk
          rw [Nat.zero_add] at hmem
          exact ren_rowr hm1 (fwd_mem hm1 hmem) (r'.row hrow)
        · exact hv.elim
      · exact hv.elim
    rcases he with rfl | rfl
    · exact key
    · exact key
  refine wpIn_seq (vCode_ok hT hO hm x h (ro := none) (ds := []) r0 (Fr.refl _ _) env0 fun e G' a' w' g' ds' hq r' f' env' _ => ?_)
  cases e with
  | normal => exact scope_wp hT hO hm hl hq r' f' env' hend
  | goto l' => exact hq.elim
  | exit id => exact hend (.exit id) G' a' w' g' ds' (by simp) hq r' f' env'
  | ret => exact hend .ret G' a' w' g' ds' (by simp) hq r' f' env'
  | panic v => exact hend (.panic v) G' a' w' g' ds' (by simp) hq r' f' env'
end Go.Proofs.YtdpflafjfkooeaaGreatDoorG
