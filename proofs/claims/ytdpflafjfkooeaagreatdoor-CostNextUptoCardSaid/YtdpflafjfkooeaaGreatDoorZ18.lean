/- YtdpflafjfkooeaaGreatDoorZ18: a part of the proof, joined of its texts. -/
import Derived.Test.YtdpflafjfkooeaaGreatDoorZ17
namespace Go.Proofs.YtdpflafjfkooeaaGreatDoorG
open Go Go.RowKit Go.Proofs Go.Proofs.YtdpflafjfkooeaaGreatDoorG.Dec
set_option linter.unusedSimpArgs false
set_option linter.unusedVariables false
set_option maxRecDepth 100000 in
theorem and31 {x : Int} (h0 : 0 ≤ x) (h1 : x ≤ 255) : bitI .and .u8 x 31 = x % 32 := by
  have key : ∀ n : Fin 256, bitI .and .u8 (n.val : Int) 31 = (n.val : Int) % 32 := by decide
  obtain ⟨n, rfl⟩ := Int.eq_ofNat_of_zero_le h0
  exact key ⟨n, by omega⟩
set_option maxRecDepth 100000 in
theorem and15 {x : Int} (h0 : 0 ≤ x) (h1 : x ≤ 255) : bitI .and .u8 x 15 = x % 16 := by
  have key : ∀ n : Fin 256, bitI .and .u8 (n.val : Int) 15 = (n.val : Int) % 16 := by decide
  obtain ⟨n, rfl⟩ := Int.eq_ofNat_of_zero_le h0
  exact key ⟨n, by omega⟩
set_option maxRecDepth 100000 in
theorem and7 {x : Int} (h0 : 0 ≤ x) (h1 : x ≤ 255) : bitI .and .u8 x 7 = x % 8 := by
  have key : ∀ n : Fin 256, bitI .and .u8 (n.val : Int) 7 = (n.val : Int) % 8 := by decide
  obtain ⟨n, rfl⟩ := Int.eq_ofNat_of_zero_le h0
  exact key ⟨n, by omega⟩
set_option maxRecDepth 100000 in
theorem and192 {x : Int} (h0 : 0 ≤ x) (h1 : x ≤ 255) : bitI .and .u8 x 192 = 128 ↔ cont x = true := by
  have key : ∀ n : Fin 256, bitI .and .u8 (n.val : Int) 192 = 128 ↔ cont (n.val : Int) = true := by decide +kernel
  obtain ⟨n, rfl⟩ := Int.eq_ofNat_of_zero_le h0
  exact key ⟨n, by omega⟩
theorem or_add {A B : Int} {k : Nat} (h0 : 0 ≤ A) (h1 : 0 ≤ B) (h2 : B < 2 ^ k) (h3 : A * 2 ^ k + B < 9223372036854775808) : bitI .or .i64 (A * 2 ^ k) B = A * 2 ^ k + B := by
  obtain ⟨a, rfl⟩ := Int.eq_ofNat_of_zero_le h0
  obtain ⟨b, rfl⟩ := Int.eq_ofNat_of_zero_le h1
  have hb : b < 2 ^ k := by exact_mod_cast h2
  have e : ((a : Int) * 2 ^ k) = ((a * 2 ^ k : Nat) : Int) := by simp
  have hs : a * 2 ^ k + b < 9223372036854775808 := by rw [e] at h3; omega
  have hor : a * 2 ^ k ||| b = a * 2 ^ k + b := by rw [Nat.mul_comm]; exact (Nat.two_pow_add_eq_or_of_lt hb a).symm
  rw [e]
  show IntKind.i64.wrap ((BitVec.ofInt 64 ((a * 2 ^ k : Nat) : Int) ||| BitVec.ofInt 64 (b : Int)).toNat : Int) = _
  have t1 : (BitVec.ofInt 64 ((a * 2 ^ k : Nat) : Int)).toNat = a * 2 ^ k := by simp [BitVec.toNat_ofInt]; omega
  have t2 : (BitVec.ofInt 64 (b : Int)).toNat = b := by simp [BitVec.toNat_ofInt]; omega
  rw [BitVec.toNat_or, t1, t2, hor, wrap_in (by omega) (by omega)]
  omega
theorem or_add32 {A B : Int} (h0 : 0 ≤ A) (h1 : 0 ≤ B) (h2 : B < 64) (h3 : A * 64 + B < 2147483648) : bitI .or .i32 (A * 64) B = A * 64 + B := by
  obtain ⟨a, rfl⟩ := Int.eq_ofNat_of_zero_le h0
  obtain ⟨b, rfl⟩ := Int.eq_ofNat_of_zero_le h1
  have hor : a * 64 ||| b = a * 64 + b := by have := (Nat.two_pow_add_eq_or_of_lt (i := 6) (b := b) (by omega) a).symm; rw [Nat.mul_comm]; exact this
  have e : ((a : Int) * 64) = ((a * 64 : Nat) : Int) := by omega
  rw [e]
  show IntKind.i32.wrap ((BitVec.ofInt 32 ((a * 64 : Nat) : Int) ||| BitVec.ofInt 32 (b : Int)).toNat : Int) = _
  have t1 : (BitVec.ofInt 32 ((a * 64 : Nat) : Int)).toNat = a * 64 := by simp [BitVec.toNat_ofInt]; omega
  have t2 : (BitVec.ofInt 32 (b : Int)).toNat = b := by simp [BitVec.toNat_ofInt]; omega
  rw [BitVec.toNat_or, t1, t2, hor, wrap32_in (by omega) (by omega)]
  omega
def valP (m : Int) (l : List Int) : Nat → Int
  | 0 => rd l 0 % m
  | k + 1 => valP m l k * 64 + rd l ((k : Int) + 1) % 64
theorem valP_b {m : Int} {l : List Int} {k : Nat} (h : (m = 32 ∧ k ≤ 1) ∨ (m = 16 ∧ k ≤ 2) ∨ (m = 8 ∧ k ≤ 3)) : 0 ≤ valP m l k ∧ valP m l k < 2097152 := by
  have : k = 0 ∨ k = 1 ∨ k = 2 ∨ k = 3 := by omega
  rcases this with rfl | rfl | rfl | rfl <;> simp only [valP] <;> (rcases h with ⟨rfl, _⟩ | ⟨rfl, _⟩ | ⟨rfl, _⟩) <;> omega
theorem td_get {l : List Int} {n k : Nat} (h : k < n) : (List.take n (List.drop 1 l)).getD k 0 = rd l ((k : Int) + 1) := by
  simp only [rd, List.getD, List.getElem?_take, if_pos h, List.getElem?_drop]
  rw [show ((k : Int) + 1).toNat = 1 + k by omega]
theorem nxz0 {l : List Int} (h : (l.length : Int) = 0) : nx l = (0, 0) := by unfold nx; rw [if_pos (by omega)]
theorem nxz1 {l : List Int} (h0 : ¬ (l.length : Int) = 0) (h : rd l 0 < 128) : nx l = (rd l 0, 1) := by unfold nx; rw [if_neg (by omega), if_pos h]
theorem nxz2 {l : List Int} (h0 : ¬ (l.length : Int) = 0) (h1 : ¬ rd l 0 < 128) (h : rd l 0 < 192) : nx l = (0, 0) := by unfold nx; rw [if_neg (by omega), if_neg h1, if_pos h]
theorem nxi2 {l : List Int} (h0 : ¬ (l.length : Int) = 0) (h1 : ¬ rd l 0 < 128) (h2 : ¬ rd l 0 < 192) (h : rd l 0 < 224) : nx l = if 2 ≤ l.length ∧ cont (rd l 1) = true ∧ szU (two l) = 2 then (two l, 2) else (0, 0) := by unfold nx; rw [if_neg (by omega), if_neg h1, if_neg h2, if_pos h]
theorem nxi3 {l : List Int} (h0 : ¬ (l.length : Int) = 0) (h1 : ¬ rd l 0 < 128) (h2 : ¬ rd l 0 < 192) (h3 : ¬ rd l 0 < 224) (h : rd l 0 < 240) : nx l = if 3 ≤ l.length ∧ cont (rd l 1) = true ∧ cont (rd l 2) = true ∧ szU (three l) = 3 then (three l, 3) else (0, 0) := by unfold nx; rw [if_neg (by omega), if_neg h1, if_neg h2, if_neg h3, if_pos h]
theorem nxi4 {l : List Int} (h0 : ¬ (l.length : Int) = 0) (h1 : ¬ rd l 0 < 128) (h2 : ¬ rd l 0 < 192) (h3 : ¬ rd l 0 < 224) (h4 : ¬ rd l 0 < 240) (h : rd l 0 < 248) : nx l = if 4 ≤ l.length ∧ cont (rd l 1) = true ∧ cont (rd l 2) = true ∧ cont (rd l 3) = true ∧ szU (four l) = 4 then (four l, 4) else (0, 0) := by unfold nx; rw [if_neg (by omega), if_neg h1, if_neg h2, if_neg h3, if_neg h4, if_pos h]
theorem nxz5 {l : List Int} (h0 : ¬ (l.length : Int) = 0) (h1 : ¬ rd l 0 < 128) (h2 : ¬ rd l 0 < 192) (h3 : ¬ rd l 0 < 224) (h4 : ¬ rd l 0 < 240) (h : ¬ rd l 0 < 248) : nx l = (0, 0) := by unfold nx; rw [if_neg (by omega), if_neg h1, if_neg h2, if_neg h3, if_neg h4, if_neg h]
theorem tv_bstd {l : List Int} {n j : Nat} (h : j < n) (h2 : 1 + j < l.length) : (List.map TV.v (bs (List.take n (List.drop 1 l)))).getD j .dead = .v (.raw (.int .u8 (rd l ((j : Int) + 1)))) := by
  rw [tv_bs (by simp only [List.length_take, List.length_drop]; omega), td_get h]
theorem v2 (l : List Int) : valP 32 l 1 = two l := by simp [valP, two]
theorem v3 (l : List Int) : valP 16 l 2 = three l := by simp [valP, three]
theorem v4 (l : List Int) : valP 8 l 3 = four l := by simp [valP, four]
theorem step32 {v x : Int} (hv : 0 ≤ v ∧ v < 2097152) (hx : 0 ≤ x ∧ x ≤ 255) : bitI .or .i32 (IntKind.i32.wrap (v * 2 ^ min 6 IntKind.i32.bits)) (IntKind.i32.wrap (bitI .and .u8 x 63)) = v * 64 + x % 64 := by
  have e : (2 : Int) ^ min 6 IntKind.i32.bits = 64 := rfl
  rw [e, and63 hx.1 (by omega), wrap32_in (by omega) (by omega), wrap32_in (by omega) (by omega), or_add32 hv.1 (by omega) (by omega) (by omega)]
theorem at1' {l : List Int} (h : cont (rd l (((0 : Nat) : Int) + 1)) = true) : cont (rd l 1) = true := by simpa using h
theorem at2' {l : List Int} (h : cont (rd l (((1 : Nat) : Int) + 1)) = true) : cont (rd l 2) = true := by simpa using h
theorem at3' {l : List Int} (h : cont (rd l (((2 : Nat) : Int) + 1)) = true) : cont (rd l 3) = true := by simpa using h
theorem seq_n {K : List (Nm × C) → Prop} {Q G} (h : K G) : GEx.seq K Q .normal G := h
theorem DBD2 : type_of% (And.intro @List.length_map.{0,0} (And.intro @bs_len (And.intro @rn_len (And.intro @cut_bs (And.intro @cut_bsd (And.intro @Int.sub_zero (And.intro @rd_at (And.intro @Nat.zero_add (And.intro @List.length_take.{0} (And.intro @List.length_drop.{0} @Int.toNat_one)))))))))) := ⟨@List.length_map.{0,0}, @bs_len, @rn_len, @cut_bs, @cut_bsd, @Int.sub_zero, @rd_at, @Nat.zero_add, @List.length_take.{0}, @List.length_drop.{0}, @Int.toNat_one⟩
set_option maxRecDepth 10000 in
set_option maxHeartbeats 8000000 in
theorem next_ok (l : List Int) (hb : Bytes l) (hl : l.length ≤ 140000000000000) : CallOk Tryz.prog 85 [sl (bs l)] (.tup [.one (.v (.raw (.int .i32 (nx l).1))), .one (.v (.raw (.int .i64 (nx l).2)))]) [] true := by
  have hby := by_bd hb
  have b0 := hby 0
  have e0 : rd l 0 = l.getD 0 0 := rfl
  refine fn_okS2 (l := 0) T_ok (orc_ok _) mixed Tryz.func85 rfl (by rfl) (by kernel_rfl) (lv [[0], [0], [0], [0, 11], [0, 6], [0, 6, 15], [2, 3], [0, 6, 20], [0, 6, 23], [0, 4, 5], [0, 6, 29], [0, 4, 5], [0, 6, 35], [0, 4, 5], [0, 4, 5, 44], [4, 5, 47, 48, 49], [4, 5, 47, 48, 49, 50], [4, 5, 8, 47, 48, 49], [4, 5, 8, 47, 48, 49, 55], [4, 5, 47, 48, 49], [4, 5, 47, 48, 49], [4, 5, 66], [2, 3], [2, 3]]) 69 rfl (by simp) rfl (by simp [X.all, PX.all, TV.rawR, SV.isRaw]) ?_
  simp only [argsG, Nat.zero_add, Nat.reduceAdd]
  repeat' first
    | ((first
        | ((with_reducible refine vR_cons (by decide) ?_); generalize hk : KtR _ _ _ _ _ _ _ _ _ _ = k)
        | ((first
        | with_reducible refine vOps_cons' ?_) <;> generalize hk : Kt _ _ _ _ _ _ _ _ _ = k)) <;> (simp only [Tryz.f85, lv, E1, E2, E5, ET, T, mvB, bxB, sxB, rxB, fwd, fwds, inv, mOk, EB, Int.reduceToNat, ↓reduceIte, reduceCtorEq, Nat.reduceLT, Nat.reduceEqDiff, Nat.reduceAdd, Nat.reduceMul, Nat.reduceLeDiff, Nat.reduceDiv, Nat.reduceMod, Nat.reduceSub, Nat.reduceBEq, DBD2]; (try simp (disch := omega) only [wrap_in, Int.toNat_natCast, tv_rn, tv_bs, cut_bs2, tv_bstd]); subst hk))
    | with_reducible first | refine Kt_p ?_ | refine Kt_i (by kernel_rfl) ?_ | refine Kr_f (by kernel_rfl) ?_
    | (with_reducible refine Kr_t ?_; simp only [List.length_append, List.length_cons, List.length_nil, Nat.reduceAdd, Nat.reduceSub, List.drop_succ_cons, List.drop_zero])
    | with_reducible first | refine vR_nil ?_ | refine KtR_i (by kernel_rfl) ?_ | refine KrR_i (by kernel_rfl) ?_ | refine vR_skip (by decide) ?_
    | ((with_reducible refine vB_i ?_ ?_) <;> intro _ <;> (first | (exfalso; omega) | (exact absurd trivial ‹¬True›) | (try dsimp only [])))
    | ((with_reducible refine vOps_nil' ?_); refine Kr_i (by kernel_rfl) ?_; generalize hk : plain _ _ = G; simp only [lv, E3, E2, E5, rawX, deadX, EB, ↓reduceIte, reduceCtorEq, Nat.reduceLT, Nat.reduceEqDiff, Nat.reduceAdd, Nat.reduceMul, Nat.reduceLeDiff, Nat.reduceDiv, Nat.reduceMod, Nat.reduceSub, Nat.reduceBEq, DBD2] at hk; subst hk)
    | with_reducible refine vSeq_i ?_
    | with_reducible first | refine vRegion_i (by kernel_rfl) ?_ | refine Kv_i ?_
    | ((with_reducible apply vStrK_i); (focus (rfl; done)))
    | ((with_reducible refine imp_i ?_); intro _)
    | with_reducible first | refine Ks_n ?_ | refine Ks_r ?_ | refine Ks_e ?_ | refine Kl_e ?_ | refine Kx_n ?_ | refine Kl_r ?_ | refine vRet_i ?_ | refine vSkip_i ?_ | refine vExit_i ?_ | refine vBlock_i ?_ | refine Ks_p ?_ | refine Kl_p ?_ | refine blk_p ?_ | exact Kb_p | refine vGoto_i ?_ | refine vLabel_i ?_ | refine Ks_g ?_ | refine Kl_g ?_ | refine blk_g ?_ | refine jmp_g ?_ | refine jmp_n ?_ | refine jmp_r ?_ | refine nog_n ?_ | refine nog_r ?_ | refine blk_n ?_ | refine blk_r ?_ | refine blk_e ?_ | refine blk_o (by decide) ?_ | refine cp_t ?_ | refine cp_f ?_
    | ((with_reducible apply vCond_x); (focus (simp only [lv, E1, E2, E5, ET, T, mvB, bxB, sxB, rxB, fwd, fwds, inv, mOk, EB, Int.reduceToNat, ↓reduceIte, reduceCtorEq, Nat.reduceLT, Nat.reduceEqDiff, Nat.reduceAdd, Nat.reduceMul, Nat.reduceLeDiff, Nat.reduceDiv, Nat.reduceMod, Nat.reduceSub, Nat.reduceBEq, DBD2]; with_reducible first | exact Eq.refl (bo true) | exact Eq.refl (bo false))))
    | ((with_reducible refine And.intro ?_ ?_); (focus (try omega)))
  refine seq_n ?_
  repeat' first
    | ((first
        | ((with_reducible refine vR_cons (by decide) ?_); generalize hk : KtR _ _ _ _ _ _ _ _ _ _ = k)
        | ((first
        | with_reducible refine vOps_cons' ?_) <;> generalize hk : Kt _ _ _ _ _ _ _ _ _ = k)) <;> (simp only [Tryz.f85, lv, E1, E2, E5, ET, T, mvB, bxB, sxB, rxB, fwd, fwds, inv, mOk, EB, Int.reduceToNat, ↓reduceIte, reduceCtorEq, Nat.reduceLT, Nat.reduceEqDiff, Nat.reduceAdd, Nat.reduceMul, Nat.reduceLeDiff, Nat.reduceDiv, Nat.reduceMod, Nat.reduceSub, Nat.reduceBEq, DBD2]; (try simp (disch := omega) only [wrap_in, Int.toNat_natCast, tv_rn, tv_bs, cut_bs2, tv_bstd]); subst hk))
    | with_reducible first | refine Kt_p ?_ | refine Kt_i (by kernel_rfl) ?_ | refine Kr_f (by kernel_rfl) ?_
    | (with_reducible refine Kr_t ?_; simp only [List.length_append, List.length_cons, List.length_nil, Nat.reduceAdd, Nat.reduceSub, List.drop_succ_cons, List.drop_zero])
    | with_reducible first | refine vR_nil ?_ | refine KtR_i (by kernel_rfl) ?_ | refine KrR_i (by kernel_rfl) ?_ | refine vR_skip (by decide) ?_
    | ((with_reducible refine vB_i ?_ ?_) <;> intro _ <;> (first | (exfalso; omega) | (exact absurd trivial ‹¬True›) | (try dsimp only [])))
    | ((with_reducible refine vOps_nil' ?_); refine Kr_i (by kernel_rfl) ?_; generalize hk : plain _ _ = G; simp only [lv, E3, E2, E5, rawX, deadX, EB, ↓reduceIte, reduceCtorEq, Nat.reduceLT, Nat.reduceEqDiff, Nat.reduceAdd, Nat.reduceMul, Nat.reduceLeDiff, Nat.reduceDiv, Nat.reduceMod, Nat.reduceSub, Nat.reduceBEq, DBD2] at hk; subst hk)
    | with_reducible refine vSeq_i ?_
    | with_reducible first | refine vRegion_i (by kernel_rfl) ?_ | refine Kv_i ?_
    | ((with_reducible apply vStrK_i); (focus (rfl; done)))
    | ((with_reducible refine imp_i ?_); intro _)
    | with_reducible first | refine Ks_n ?_ | refine Ks_r ?_ | refine Ks_e ?_ | refine Kl_e ?_ | refine Kx_n ?_ | refine Kl_r ?_ | refine vRet_i ?_ | refine vSkip_i ?_ | refine vExit_i ?_ | refine vBlock_i ?_ | refine Ks_p ?_ | refine Kl_p ?_ | refine blk_p ?_ | exact Kb_p | refine vGoto_i ?_ | refine vLabel_i ?_ | refine Ks_g ?_ | refine Kl_g ?_ | refine blk_g ?_ | refine jmp_g ?_ | refine jmp_n ?_ | refine jmp_r ?_ | refine nog_n ?_ | refine nog_r ?_ | refine blk_n ?_ | refine blk_r ?_ | refine blk_e ?_ | refine blk_o (by decide) ?_ | refine cp_t ?_ | refine cp_f ?_
    | ((with_reducible apply vCond_x); (focus (simp only [lv, E1, E2, E5, ET, T, mvB, bxB, sxB, rxB, fwd, fwds, inv, mOk, EB, Int.reduceToNat, ↓reduceIte, reduceCtorEq, Nat.reduceLT, Nat.reduceEqDiff, Nat.reduceAdd, Nat.reduceMul, Nat.reduceLeDiff, Nat.reduceDiv, Nat.reduceMod, Nat.reduceSub, Nat.reduceBEq, DBD2]; with_reducible first | exact Eq.refl (bo true) | exact Eq.refl (bo false))))
    | ((with_reducible refine And.intro ?_ ?_); (focus (try omega)))
  all_goals try omega
  · rename_i c0
    have hz : nx l = (0, 0) := nxz0 c0
    rw [hz]
    refine Kf_r ?_
    simp only [Tryz.f85, E4, E3, E2, E5, rawX, deadX, ET, T, EB, ↓reduceIte, reduceCtorEq, Nat.reduceLT, Nat.reduceEqDiff, Nat.reduceAdd, Nat.reduceMul, Nat.reduceLeDiff, Nat.reduceDiv, Nat.reduceMod, Nat.reduceSub, Nat.reduceBEq, DBD2]
  · rename_i c0 c1
    have hz : nx l = (rd l 0, 1) := nxz1 c0 c1
    rw [hz]
    refine Kf_r ?_
    simp only [Tryz.f85, E4, E3, E2, E5, rawX, deadX, ET, T, EB, ↓reduceIte, reduceCtorEq, Nat.reduceLT, Nat.reduceEqDiff, Nat.reduceAdd, Nat.reduceMul, Nat.reduceLeDiff, Nat.reduceDiv, Nat.reduceMod, Nat.reduceSub, Nat.reduceBEq, DBD2, e0]
    rw [wrap32_in (by omega) (by omega)]
  · rename_i c0 c1 c2
    have hz : nx l = (0, 0) := nxz2 c0 c1 c2
    rw [hz]
    refine Kf_r ?_
    simp only [Tryz.f85, E4, E3, E2, E5, rawX, deadX, ET, T, EB, ↓reduceIte, reduceCtorEq, Nat.reduceLT, Nat.reduceEqDiff, Nat.reduceAdd, Nat.reduceMul, Nat.reduceLeDiff, Nat.reduceDiv, Nat.reduceMod, Nat.reduceSub, Nat.reduceBEq, DBD2]
  · rename_i c0 c1 c2 c3 c4
    have hz : nx l = (0, 0) := by rw [nxi2 c0 c1 c2 c3, if_neg (fun h => by omega)]
    rw [hz]
    refine Kf_r ?_
    simp only [Tryz.f85, E4, E3, E2, E5, rawX, deadX, ET, T, EB, ↓reduceIte, reduceCtorEq, Nat.reduceLT, Nat.reduceEqDiff, Nat.reduceAdd, Nat.reduceMul, Nat.reduceLeDiff, Nat.reduceDiv, Nat.reduceMod, Nat.reduceSub, Nat.reduceBEq, DBD2]
  · rename_i c0 c1 c2 c3 c4
    refine vLoop_s (fun k : Nat => [(.t 4, .t (i32 (valP 32 l k))), (.t 5, .t (i64 2)), (.t 47, .t (sl (bs (List.take 1 (List.drop 1 l))))), (.t 48, .t (i64 1)), (.t 49, .t (i64 k))]) (fun k => k ≤ 1 ∧ ∀ j : Nat, j < k → cont (rd l ((j : Int) + 1)) = true) (fun k => 1 - k) 0 ⟨by omega, by omega⟩ ?_ ?_
    · simp only [valP, e0]
      rw [and31 b0.1 b0.2, wrap32_in (by omega) (by omega), show min ((2 : Int) - 1).toNat (l.length - 1) = 1 by omega]
      rfl
    rintro k ⟨hk, hc⟩
    have hv := valP_b (m := 32) (l := l) (k := k) (by omega)
    have hsz : R32 (valP 32 l k) := ⟨by omega, by omega⟩
    have hxb := rd_bd hb ((k : Int) + 1)
    repeat' first
      | ((first
          | ((with_reducible refine vR_cons (by decide) ?_); generalize hk : KtR _ _ _ _ _ _ _ _ _ _ = k)
          | ((first
          | with_reducible refine vOps_cons' ?_
          | ((with_reducible apply orc_i); (focus (exact size_ok _ hsz; done)))) <;> generalize hk : Kt _ _ _ _ _ _ _ _ _ = k)) <;> (simp only [Tryz.f85, lv, E1, E2, E5, ET, T, mvB, bxB, sxB, rxB, fwd, fwds, inv, mOk, EB, Int.reduceToNat, ↓reduceIte, reduceCtorEq, Nat.reduceLT, Nat.reduceEqDiff, Nat.reduceAdd, Nat.reduceMul, Nat.reduceLeDiff, Nat.reduceDiv, Nat.reduceMod, Nat.reduceSub, Nat.reduceBEq, DBD2]; (try simp (disch := omega) only [wrap_in, Int.toNat_natCast, tv_rn, tv_bs, cut_bs2, tv_bstd]); subst hk))
      | with_reducible first | refine Kt_p ?_ | refine Kt_i (by kernel_rfl) ?_ | refine Kr_f (by kernel_rfl) ?_
      | (with_reducible refine Kr_t ?_; simp only [List.length_append, List.length_cons, List.length_nil, Nat.reduceAdd, Nat.reduceSub, List.drop_succ_cons, List.drop_zero])
      | with_reducible first | refine vR_nil ?_ | refine KtR_i (by kernel_rfl) ?_ | refine KrR_i (by kernel_rfl) ?_ | refine vR_skip (by decide) ?_
      | ((with_reducible refine vB_i ?_ ?_) <;> intro _ <;> (first | (exfalso; omega) | (exact absurd trivial ‹¬True›) | (try dsimp only [])))
      | ((with_reducible refine vOps_nil' ?_); refine Kr_i (by kernel_rfl) ?_; generalize hk : plain _ _ = G; simp only [lv, E3, E2, E5, rawX, deadX, EB, ↓reduceIte, reduceCtorEq, Nat.reduceLT, Nat.reduceEqDiff, Nat.reduceAdd, Nat.reduceMul, Nat.reduceLeDiff, Nat.reduceDiv, Nat.reduceMod, Nat.reduceSub, Nat.reduceBEq, DBD2] at hk; subst hk)
      | with_reducible refine vSeq_i ?_
      | with_reducible first | refine vRegion_i (by kernel_rfl) ?_ | refine Kv_i ?_
      | ((with_reducible apply vStrK_i); (focus (rfl; done)))
      | ((with_reducible refine imp_i ?_); intro _)
      | with_reducible first | refine Ks_n ?_ | refine Ks_r ?_ | refine Ks_e ?_ | refine Kl_e ?_ | refine Kx_n ?_ | refine Kl_r ?_ | refine vRet_i ?_ | refine vSkip_i ?_ | refine vExit_i ?_ | refine vBlock_i ?_ | refine Ks_p ?_ | refine Kl_p ?_ | refine blk_p ?_ | exact Kb_p | refine vGoto_i ?_ | refine vLabel_i ?_ | refine Ks_g ?_ | refine Kl_g ?_ | refine blk_g ?_ | refine jmp_g ?_ | refine jmp_n ?_ | refine jmp_r ?_ | refine nog_n ?_ | refine nog_r ?_ | refine blk_n ?_ | refine blk_r ?_ | refine blk_e ?_ | refine blk_o (by decide) ?_ | refine cp_t ?_ | refine cp_f ?_
      | ((with_reducible apply vCond_x); (focus (simp only [lv, E1, E2, E5, ET, T, mvB, bxB, sxB, rxB, fwd, fwds, inv, mOk, EB, Int.reduceToNat, ↓reduceIte, reduceCtorEq, Nat.reduceLT, Nat.reduceEqDiff, Nat.reduceAdd, Nat.reduceMul, Nat.reduceLeDiff, Nat.reduceDiv, Nat.reduceMod, Nat.reduceSub, Nat.reduceBEq, DBD2]; with_reducible first | exact Eq.refl (bo true) | exact Eq.refl (bo false))))
      | ((with_reducible refine And.intro ?_ ?_); (focus (try omega)))
    · rename_i k1 k2
      refine Kl_n ⟨k + 1, ⟨by omega, fun j hj => ?_⟩, by omega, ?_⟩
      · rcases Nat.lt_or_eq_of_le (Nat.le_of_lt_succ hj) with h | h
        · exact hc j h
        · subst h; exact (and192 hxb.1 hxb.2).1 k2
      · rw [step32 hv hxb]
        simp only [Int.natCast_add, Int.natCast_one, valP]
    · rename_i k1 k2
      have hnc : ¬ cont (rd l ((k : Int) + 1)) = true := fun h => k2 ((and192 hxb.1 hxb.2).2 h)
      have hz : nx l = (0, 0) := by
        have hk' : k = 0 := by omega
        rw [nxi2 c0 c1 c2 c3, if_neg]
        intro h
        rcases hk' with rfl
        · exact hnc (by simpa using h.2.1)
      rw [hz]
      refine Kf_r ?_
      simp only [Tryz.f85, E4, E3, E2, E5, rawX, deadX, ET, T, EB, ↓reduceIte, reduceCtorEq, Nat.reduceLT, Nat.reduceEqDiff, Nat.reduceAdd, Nat.reduceMul, Nat.reduceLeDiff, Nat.reduceDiv, Nat.reduceMod, Nat.reduceSub, Nat.reduceBEq, DBD2]
    · rename_i k1 k2
      have hk' : k = 1 := by omega
      subst hk'
      have hz : nx l = (valP 32 l 1, 2) := by
        rw [nxi2 c0 c1 c2 c3, v2, if_pos ⟨by omega, at1' (hc 0 (by omega)), by rw [← v2]; exact k2⟩]
      rw [hz]
      refine Kf_r ?_
      simp only [Tryz.f85, E4, E3, E2, E5, rawX, deadX, ET, T, EB, ↓reduceIte, reduceCtorEq, Nat.reduceLT, Nat.reduceEqDiff, Nat.reduceAdd, Nat.reduceMul, Nat.reduceLeDiff, Nat.reduceDiv, Nat.reduceMod, Nat.reduceSub, Nat.reduceBEq, DBD2]
    · rename_i k1 k2
      have hk' : k = 1 := by omega
      subst hk'
      have hz : nx l = (0, 0) := by
        rw [nxi2 c0 c1 c2 c3, if_neg fun h => k2 (by rw [v2]; exact h.2.2)]
      rw [hz]
      refine Kf_r ?_
      simp only [Tryz.f85, E4, E3, E2, E5, rawX, deadX, ET, T, EB, ↓reduceIte, reduceCtorEq, Nat.reduceLT, Nat.reduceEqDiff, Nat.reduceAdd, Nat.reduceMul, Nat.reduceLeDiff, Nat.reduceDiv, Nat.reduceMod, Nat.reduceSub, Nat.reduceBEq, DBD2]
  · rename_i c0 c1 c2 c3 c4 c5
    have hz : nx l = (0, 0) := by rw [nxi3 c0 c1 c2 c3 c4, if_neg (fun h => by omega)]
    rw [hz]
    refine Kf_r ?_
    simp only [Tryz.f85, E4, E3, E2, E5, rawX, deadX, ET, T, EB, ↓reduceIte, reduceCtorEq, Nat.reduceLT, Nat.reduceEqDiff, Nat.reduceAdd, Nat.reduceMul, Nat.reduceLeDiff, Nat.reduceDiv, Nat.reduceMod, Nat.reduceSub, Nat.reduceBEq, DBD2]
  · rename_i c0 c1 c2 c3 c4 c5
    refine vLoop_s (fun k : Nat => [(.t 4, .t (i32 (valP 16 l k))), (.t 5, .t (i64 3)), (.t 47, .t (sl (bs (List.take 2 (List.drop 1 l))))), (.t 48, .t (i64 2)), (.t 49, .t (i64 k))]) (fun k => k ≤ 2 ∧ ∀ j : Nat, j < k → cont (rd l ((j : Int) + 1)) = true) (fun k => 2 - k) 0 ⟨by omega, by omega⟩ ?_ ?_
    · simp only [valP, e0]
      rw [and15 b0.1 b0.2, wrap32_in (by omega) (by omega), show min ((3 : Int) - 1).toNat (l.length - 1) = 2 by omega]
      rfl
    rintro k ⟨hk, hc⟩
    have hv := valP_b (m := 16) (l := l) (k := k) (by omega)
    have hsz : R32 (valP 16 l k) := ⟨by omega, by omega⟩
    have hxb := rd_bd hb ((k : Int) + 1)
    repeat' first
      | ((first
          | ((with_reducible refine vR_cons (by decide) ?_); generalize hk : KtR _ _ _ _ _ _ _ _ _ _ = k)
          | ((first
          | with_reducible refine vOps_cons' ?_
          | ((with_reducible apply orc_i); (focus (exact size_ok _ hsz; done)))) <;> generalize hk : Kt _ _ _ _ _ _ _ _ _ = k)) <;> (simp only [Tryz.f85, lv, E1, E2, E5, ET, T, mvB, bxB, sxB, rxB, fwd, fwds, inv, mOk, EB, Int.reduceToNat, ↓reduceIte, reduceCtorEq, Nat.reduceLT, Nat.reduceEqDiff, Nat.reduceAdd, Nat.reduceMul, Nat.reduceLeDiff, Nat.reduceDiv, Nat.reduceMod, Nat.reduceSub, Nat.reduceBEq, DBD2]; (try simp (disch := omega) only [wrap_in, Int.toNat_natCast, tv_rn, tv_bs, cut_bs2, tv_bstd]); subst hk))
      | with_reducible first | refine Kt_p ?_ | refine Kt_i (by kernel_rfl) ?_ | refine Kr_f (by kernel_rfl) ?_
      | (with_reducible refine Kr_t ?_; simp only [List.length_append, List.length_cons, List.length_nil, Nat.reduceAdd, Nat.reduceSub, List.drop_succ_cons, List.drop_zero])
      | with_reducible first | refine vR_nil ?_ | refine KtR_i (by kernel_rfl) ?_ | refine KrR_i (by kernel_rfl) ?_ | refine vR_skip (by decide) ?_
      | ((with_reducible refine vB_i ?_ ?_) <;> intro _ <;> (first | (exfalso; omega) | (exact absurd trivial ‹¬True›) | (try dsimp only [])))
      | ((with_reducible refine vOps_nil' ?_); refine Kr_i (by kernel_rfl) ?_; generalize hk : plain _ _ = G; simp only [lv, E3, E2, E5, rawX, deadX, EB, ↓reduceIte, reduceCtorEq, Nat.reduceLT, Nat.reduceEqDiff, Nat.reduceAdd, Nat.reduceMul, Nat.reduceLeDiff, Nat.reduceDiv, Nat.reduceMod, Nat.reduceSub, Nat.reduceBEq, DBD2] at hk; subst hk)
      | with_reducible refine vSeq_i ?_
      | with_reducible first | refine vRegion_i (by kernel_rfl) ?_ | refine Kv_i ?_
      | ((with_reducible apply vStrK_i); (focus (rfl; done)))
      | ((with_reducible refine imp_i ?_); intro _)
      | with_reducible first | refine Ks_n ?_ | refine Ks_r ?_ | refine Ks_e ?_ | refine Kl_e ?_ | refine Kx_n ?_ | refine Kl_r ?_ | refine vRet_i ?_ | refine vSkip_i ?_ | refine vExit_i ?_ | refine vBlock_i ?_ | refine Ks_p ?_ | refine Kl_p ?_ | refine blk_p ?_ | exact Kb_p | refine vGoto_i ?_ | refine vLabel_i ?_ | refine Ks_g ?_ | refine Kl_g ?_ | refine blk_g ?_ | refine jmp_g ?_ | refine jmp_n ?_ | refine jmp_r ?_ | refine nog_n ?_ | refine nog_r ?_ | refine blk_n ?_ | refine blk_r ?_ | refine blk_e ?_ | refine blk_o (by decide) ?_ | refine cp_t ?_ | refine cp_f ?_
      | ((with_reducible apply vCond_x); (focus (simp only [lv, E1, E2, E5, ET, T, mvB, bxB, sxB, rxB, fwd, fwds, inv, mOk, EB, Int.reduceToNat, ↓reduceIte, reduceCtorEq, Nat.reduceLT, Nat.reduceEqDiff, Nat.reduceAdd, Nat.reduceMul, Nat.reduceLeDiff, Nat.reduceDiv, Nat.reduceMod, Nat.reduceSub, Nat.reduceBEq, DBD2]; with_reducible first | exact Eq.refl (bo true) | exact Eq.refl (bo false))))
      | ((with_reducible refine And.intro ?_ ?_); (focus (try omega)))
    · rename_i k1 k2
      refine Kl_n ⟨k + 1, ⟨by omega, fun j hj => ?_⟩, by omega, ?_⟩
      · rcases Nat.lt_or_eq_of_le (Nat.le_of_lt_succ hj) with h | h
        · exact hc j h
        · subst h; exact (and192 hxb.1 hxb.2).1 k2
      · rw [step32 hv hxb]
        simp only [Int.natCast_add, Int.natCast_one, valP]
    · rename_i k1 k2
      have hnc : ¬ cont (rd l ((k : Int) + 1)) = true := fun h => k2 ((and192 hxb.1 hxb.2).2 h)
      have hz : nx l = (0, 0) := by
        have hk' : k = 0 ∨ k = 1 := by omega
        rw [nxi3 c0 c1 c2 c3 c4, if_neg]
        intro h
        rcases hk' with rfl | rfl
        · exact hnc (by simpa using h.2.1)
        · exact hnc (by simpa using h.2.2.1)
      rw [hz]
      refine Kf_r ?_
      simp only [Tryz.f85, E4, E3, E2, E5, rawX, deadX, ET, T, EB, ↓reduceIte, reduceCtorEq, Nat.reduceLT, Nat.reduceEqDiff, Nat.reduceAdd, Nat.reduceMul, Nat.reduceLeDiff, Nat.reduceDiv, Nat.reduceMod, Nat.reduceSub, Nat.reduceBEq, DBD2]
    · rename_i k1 k2
      have hk' : k = 2 := by omega
      subst hk'
      have hz : nx l = (valP 16 l 2, 3) := by
        rw [nxi3 c0 c1 c2 c3 c4, v3, if_pos ⟨by omega, at1' (hc 0 (by omega)), at2' (hc 1 (by omega)), by rw [← v3]; exact k2⟩]
      rw [hz]
      refine Kf_r ?_
      simp only [Tryz.f85, E4, E3, E2, E5, rawX, deadX, ET, T, EB, ↓reduceIte, reduceCtorEq, Nat.reduceLT, Nat.reduceEqDiff, Nat.reduceAdd, Nat.reduceMul, Nat.reduceLeDiff, Nat.reduceDiv, Nat.reduceMod, Nat.reduceSub, Nat.reduceBEq, DBD2]
    · rename_i k1 k2
      have hk' : k = 2 := by omega
      subst hk'
      have hz : nx l = (0, 0) := by
        rw [nxi3 c0 c1 c2 c3 c4, if_neg fun h => k2 (by rw [v3]; exact h.2.2.2)]
      rw [hz]
      refine Kf_r ?_
      simp only [Tryz.f85, E4, E3, E2, E5, rawX, deadX, ET, T, EB, ↓reduceIte, reduceCtorEq, Nat.reduceLT, Nat.reduceEqDiff, Nat.reduceAdd, Nat.reduceMul, Nat.reduceLeDiff, Nat.reduceDiv, Nat.reduceMod, Nat.reduceSub, Nat.reduceBEq, DBD2]
  · rename_i c0 c1 c2 c3 c4 c5 c6
    have hz : nx l = (0, 0) := by rw [nxi4 c0 c1 c2 c3 c4 c5, if_neg (fun h => by omega)]
    rw [hz]
    refine Kf_r ?_
    simp only [Tryz.f85, E4, E3, E2, E5, rawX, deadX, ET, T, EB, ↓reduceIte, reduceCtorEq, Nat.reduceLT, Nat.reduceEqDiff, Nat.reduceAdd, Nat.reduceMul, Nat.reduceLeDiff, Nat.reduceDiv, Nat.reduceMod, Nat.reduceSub, Nat.reduceBEq, DBD2]
  · rename_i c0 c1 c2 c3 c4 c5 c6
    refine vLoop_s (fun k : Nat => [(.t 4, .t (i32 (valP 8 l k))), (.t 5, .t (i64 4)), (.t 47, .t (sl (bs (List.take 3 (List.drop 1 l))))), (.t 48, .t (i64 3)), (.t 49, .t (i64 k))]) (fun k => k ≤ 3 ∧ ∀ j : Nat, j < k → cont (rd l ((j : Int) + 1)) = true) (fun k => 3 - k) 0 ⟨by omega, by omega⟩ ?_ ?_
    · simp only [valP, e0]
      rw [and7 b0.1 b0.2, wrap32_in (by omega) (by omega), show min ((4 : Int) - 1).toNat (l.length - 1) = 3 by omega]
      rfl
    rintro k ⟨hk, hc⟩
    have hv := valP_b (m := 8) (l := l) (k := k) (by omega)
    have hsz : R32 (valP 8 l k) := ⟨by omega, by omega⟩
    have hxb := rd_bd hb ((k : Int) + 1)
    repeat' first
      | ((first
          | ((with_reducible refine vR_cons (by decide) ?_); generalize hk : KtR _ _ _ _ _ _ _ _ _ _ = k)
          | ((first
          | with_reducible refine vOps_cons' ?_
          | ((with_reducible apply orc_i); (focus (exact size_ok _ hsz; done)))) <;> generalize hk : Kt _ _ _ _ _ _ _ _ _ = k)) <;> (simp only [Tryz.f85, lv, E1, E2, E5, ET, T, mvB, bxB, sxB, rxB, fwd, fwds, inv, mOk, EB, Int.reduceToNat, ↓reduceIte, reduceCtorEq, Nat.reduceLT, Nat.reduceEqDiff, Nat.reduceAdd, Nat.reduceMul, Nat.reduceLeDiff, Nat.reduceDiv, Nat.reduceMod, Nat.reduceSub, Nat.reduceBEq, DBD2]; (try simp (disch := omega) only [wrap_in, Int.toNat_natCast, tv_rn, tv_bs, cut_bs2, tv_bstd]); subst hk))
      | with_reducible first | refine Kt_p ?_ | refine Kt_i (by kernel_rfl) ?_ | refine Kr_f (by kernel_rfl) ?_
      | (with_reducible refine Kr_t ?_; simp only [List.length_append, List.length_cons, List.length_nil, Nat.reduceAdd, Nat.reduceSub, List.drop_succ_cons, List.drop_zero])
      | with_reducible first | refine vR_nil ?_ | refine KtR_i (by kernel_rfl) ?_ | refine KrR_i (by kernel_rfl) ?_ | refine vR_skip (by decide) ?_
      | ((with_reducible refine vB_i ?_ ?_) <;> intro _ <;> (first | (exfalso; omega) | (exact absurd trivial ‹¬True›) | (try dsimp only [])))
      | ((with_reducible refine vOps_nil' ?_); refine Kr_i (by kernel_rfl) ?_; generalize hk : plain _ _ = G; simp only [lv, E3, E2, E5, rawX, deadX, EB, ↓reduceIte, reduceCtorEq, Nat.reduceLT, Nat.reduceEqDiff, Nat.reduceAdd, Nat.reduceMul, Nat.reduceLeDiff, Nat.reduceDiv, Nat.reduceMod, Nat.reduceSub, Nat.reduceBEq, DBD2] at hk; subst hk)
      | with_reducible refine vSeq_i ?_
      | with_reducible first | refine vRegion_i (by kernel_rfl) ?_ | refine Kv_i ?_
      | ((with_reducible apply vStrK_i); (focus (rfl; done)))
      | ((with_reducible refine imp_i ?_); intro _)
      | with_reducible first | refine Ks_n ?_ | refine Ks_r ?_ | refine Ks_e ?_ | refine Kl_e ?_ | refine Kx_n ?_ | refine Kl_r ?_ | refine vRet_i ?_ | refine vSkip_i ?_ | refine vExit_i ?_ | refine vBlock_i ?_ | refine Ks_p ?_ | refine Kl_p ?_ | refine blk_p ?_ | exact Kb_p | refine vGoto_i ?_ | refine vLabel_i ?_ | refine Ks_g ?_ | refine Kl_g ?_ | refine blk_g ?_ | refine jmp_g ?_ | refine jmp_n ?_ | refine jmp_r ?_ | refine nog_n ?_ | refine nog_r ?_ | refine blk_n ?_ | refine blk_r ?_ | refine blk_e ?_ | refine blk_o (by decide) ?_ | refine cp_t ?_ | refine cp_f ?_
      | ((with_reducible apply vCond_x); (focus (simp only [lv, E1, E2, E5, ET, T, mvB, bxB, sxB, rxB, fwd, fwds, inv, mOk, EB, Int.reduceToNat, ↓reduceIte, reduceCtorEq, Nat.reduceLT, Nat.reduceEqDiff, Nat.reduceAdd, Nat.reduceMul, Nat.reduceLeDiff, Nat.reduceDiv, Nat.reduceMod, Nat.reduceSub, Nat.reduceBEq, DBD2]; with_reducible first | exact Eq.refl (bo true) | exact Eq.refl (bo false))))
      | ((with_reducible refine And.intro ?_ ?_); (focus (try omega)))
    · rename_i k1 k2
      refine Kl_n ⟨k + 1, ⟨by omega, fun j hj => ?_⟩, by omega, ?_⟩
      · rcases Nat.lt_or_eq_of_le (Nat.le_of_lt_succ hj) with h | h
        · exact hc j h
        · subst h; exact (and192 hxb.1 hxb.2).1 k2
      · rw [step32 hv hxb]
        simp only [Int.natCast_add, Int.natCast_one, valP]
    · rename_i k1 k2
      have hnc : ¬ cont (rd l ((k : Int) + 1)) = true := fun h => k2 ((and192 hxb.1 hxb.2).2 h)
      have hz : nx l = (0, 0) := by
        have hk' : k = 0 ∨ k = 1 ∨ k = 2 := by omega
        rw [nxi4 c0 c1 c2 c3 c4 c5, if_neg]
        intro h
        rcases hk' with rfl | rfl | rfl
        · exact hnc (by simpa using h.2.1)
        · exact hnc (by simpa using h.2.2.1)
        · exact hnc (by simpa using h.2.2.2.1)
      rw [hz]
      refine Kf_r ?_
      simp only [Tryz.f85, E4, E3, E2, E5, rawX, deadX, ET, T, EB, ↓reduceIte, reduceCtorEq, Nat.reduceLT, Nat.reduceEqDiff, Nat.reduceAdd, Nat.reduceMul, Nat.reduceLeDiff, Nat.reduceDiv, Nat.reduceMod, Nat.reduceSub, Nat.reduceBEq, DBD2]
    · rename_i k1 k2
      have hk' : k = 3 := by omega
      subst hk'
      have hz : nx l = (valP 8 l 3, 4) := by
        rw [nxi4 c0 c1 c2 c3 c4 c5, v4, if_pos ⟨by omega, at1' (hc 0 (by omega)), at2' (hc 1 (by omega)), at3' (hc 2 (by omega)), by rw [← v4]; exact k2⟩]
      rw [hz]
      refine Kf_r ?_
      simp only [Tryz.f85, E4, E3, E2, E5, rawX, deadX, ET, T, EB, ↓reduceIte, reduceCtorEq, Nat.reduceLT, Nat.reduceEqDiff, Nat.reduceAdd, Nat.reduceMul, Nat.reduceLeDiff, Nat.reduceDiv, Nat.reduceMod, Nat.reduceSub, Nat.reduceBEq, DBD2]
    · rename_i k1 k2
      have hk' : k = 3 := by omega
      subst hk'
      have hz : nx l = (0, 0) := by
        rw [nxi4 c0 c1 c2 c3 c4 c5, if_neg fun h => k2 (by rw [v4]; exact h.2.2.2.2)]
      rw [hz]
      refine Kf_r ?_
      simp only [Tryz.f85, E4, E3, E2, E5, rawX, deadX, ET, T, EB, ↓reduceIte, reduceCtorEq, Nat.reduceLT, Nat.reduceEqDiff, Nat.reduceAdd, Nat.reduceMul, Nat.reduceLeDiff, Nat.reduceDiv, Nat.reduceMod, Nat.reduceSub, Nat.reduceBEq, DBD2]
  · rename_i c0 c1 c2 c3 c4 c5
    have hz : nx l = (0, 0) := nxz5 c0 c1 c2 c3 c4 c5
    rw [hz]
    refine Kf_r ?_
    simp only [Tryz.f85, E4, E3, E2, E5, rawX, deadX, ET, T, EB, ↓reduceIte, reduceCtorEq, Nat.reduceLT, Nat.reduceEqDiff, Nat.reduceAdd, Nat.reduceMul, Nat.reduceLeDiff, Nat.reduceDiv, Nat.reduceMod, Nat.reduceSub, Nat.reduceBEq, DBD2]
end Go.Proofs.YtdpflafjfkooeaaGreatDoorG
namespace Go.Proofs.YtdpflafjfkooeaaGreatDoorG
open Go Go.RowKit Go.Proofs Go.Proofs.YtdpflafjfkooeaaGreatDoorG.Dec
set_option linter.unusedSimpArgs false
set_option linter.unusedVariables false
theorem DBD3 : type_of% (And.intro @List.length_map.{0,0} (And.intro @bs_len (And.intro @rn_len (And.intro @cut_bs (And.intro @cut_bsd (And.intro @Int.sub_zero (And.intro @rd_at (And.intro @Nat.zero_add @Int.toNat_natCast)))))))) := ⟨@List.length_map.{0,0}, @bs_len, @rn_len, @cut_bs, @cut_bsd, @Int.sub_zero, @rd_at, @Nat.zero_add, @Int.toNat_natCast⟩
set_option maxRecDepth 10000 in
set_option maxHeartbeats 4000000 in
theorem decode_ok (l : List Int) (hb : Bytes l) (hl : l.length ≤ 30000000000000) : CallOk Tryz.prog 80 [sl (bs l)] (decX l) [(21, 1, rn (dec l).1)] true := by
  refine fn_ok' T_ok (orc_ok _) mixed Tryz.func80 rfl (by kernel_rfl) (lv [[0], [0, 5], [0, 5, 6], [0, 5, 6, 12], [0, 5, 6, 7, 8], [0, 5, 6, 7, 8, 21], [2, 3, 4], [0, 5, 6, 8], [0, 5, 6], [2, 3, 4]]) 31 rfl (by simp) rfl (fun _ => ⟨rfl, fun r hr => by simp at hr; subst hr; exact rn_raw⟩) ?_
  simp only [argsG, Nat.zero_add, Nat.reduceAdd]
  repeat' first
    | ((first
        | ((with_reducible refine vR_cons (by decide) ?_); generalize hk : KtR _ _ _ _ _ _ _ _ _ _ = k)
        | ((first
        | with_reducible refine vOps_cons' ?_) <;> generalize hk : Kt _ _ _ _ _ _ _ _ _ = k)) <;> (simp only [Tryz.f80, lv, E1, E2, E5, ET, T, mvB, bxB, sxB, rxB, fwd, fwds, inv, mOk, EB, simprocAttr, DBD3]; (try simp (disch := omega) only [wrap_in, Int.toNat_natCast, tv_rn, tv_bs, cut_bs2]); subst hk))
    | with_reducible first | refine Kt_p ?_ | refine Kt_i (by kernel_rfl) ?_ | refine Kr_f (by kernel_rfl) ?_
    | (with_reducible refine Kr_t ?_; simp only [List.length_append, List.length_cons, List.length_nil, Nat.reduceAdd, Nat.reduceSub, List.drop_succ_cons, List.drop_zero])
    | with_reducible first | refine vR_nil ?_ | refine KtR_i (by kernel_rfl) ?_ | refine KrR_i (by kernel_rfl) ?_ | refine vR_skip (by decide) ?_
    | ((with_reducible refine vB_i ?_ ?_) <;> intro _ <;> (first | (exfalso; omega) | (exact absurd trivial ‹¬True›) | (try dsimp only [])))
    | ((with_reducible refine vOps_nil' ?_); refine Kr_i (by kernel_rfl) ?_; generalize hk : plain _ _ = G; simp only [lv, E3, E2, E5, rawX, deadX, EB, simprocAttr, DBD3] at hk; subst hk)
    | with_reducible refine vSeq_i ?_
    | with_reducible first | refine vRegion_i (by kernel_rfl) ?_ | refine Kv_i ?_
    | ((with_reducible apply vStrK_i); (focus (rfl; done)))
    | ((with_reducible refine imp_i ?_); intro _)
    | with_reducible first | refine Ks_n ?_ | refine Ks_r ?_ | refine Ks_e ?_ | refine Kl_e ?_ | refine Kx_n ?_ | refine Kl_r ?_ | refine vRet_i ?_ | refine vSkip_i ?_ | refine vExit_i ?_ | refine vBlock_i ?_ | refine Ks_p ?_ | refine Kl_p ?_ | refine blk_p ?_ | exact Kb_p | refine vGoto_i ?_ | refine vLabel_i ?_ | refine Ks_g ?_ | refine Kl_g ?_ | refine blk_g ?_ | refine jmp_g ?_ | refine jmp_n ?_ | refine jmp_r ?_ | refine nog_n ?_ | refine nog_r ?_ | refine blk_n ?_ | refine blk_r ?_ | refine blk_e ?_ | refine blk_o (by decide) ?_ | refine cp_t ?_ | refine cp_f ?_
    | ((with_reducible apply vCond_x); (focus (simp only [lv, E1, E2, E5, ET, T, mvB, bxB, sxB, rxB, fwd, fwds, inv, mOk, EB, simprocAttr, DBD3]; with_reducible first | exact Eq.refl (bo true) | exact Eq.refl (bo false))))
    | ((with_reducible refine And.intro ?_ ?_); (focus (try omega)))
  all_goals try omega
  refine vLoop_s (fun s : Nat × List Int => [(.t 0, .t (sl (bs l))), (.t 5, .t (.p (.one (.sr 0)))), (.t 6, .t (i64 s.1)), (.row 0, .row 21 1 (rn s.2))]) (DecI l) (fun s => l.length - s.1) (0, []) (.init l) rfl ?_
  rintro ⟨a, acc⟩ hI
  have h1 : a ≤ l.length := hI.le
  have h2 : acc.length ≤ a := hI.len
  have hbd := nx_bd (hb.drop a)
  have hrg := fun h => nx_rng (l := l.drop a) h
  rw [List.length_drop] at hrg
  simp only [] at *
  repeat' first
    | ((first
        | ((with_reducible refine vR_cons (by decide) ?_); generalize hk : KtR _ _ _ _ _ _ _ _ _ _ = k)
        | ((first
        | with_reducible refine vOps_cons' ?_
        | ((with_reducible apply orc_i); (focus (exact next_ok (l.drop a) (hb.drop a) (by rw [List.length_drop]; omega); done)))) <;> generalize hk : Kt _ _ _ _ _ _ _ _ _ = k)) <;> (simp only [Tryz.f80, lv, E1, E2, E5, ET, T, mvB, bxB, sxB, rxB, fwd, fwds, inv, mOk, EB, simprocAttr, DBD3]; (try simp (disch := omega) only [wrap_in, Int.toNat_natCast, tv_rn, tv_bs, cut_bs2]); subst hk))
    | with_reducible first | refine Kt_p ?_ | refine Kt_i (by kernel_rfl) ?_ | refine Kr_f (by kernel_rfl) ?_
    | (with_reducible refine Kr_t ?_; simp only [List.length_append, List.length_cons, List.length_nil, Nat.reduceAdd, Nat.reduceSub, List.drop_succ_cons, List.drop_zero])
    | with_reducible first | refine vR_nil ?_ | refine KtR_i (by kernel_rfl) ?_ | refine KrR_i (by kernel_rfl) ?_ | refine vR_skip (by decide) ?_
    | ((with_reducible refine vB_i ?_ ?_) <;> intro _ <;> (first | (exfalso; omega) | (exact absurd trivial ‹¬True›) | (try dsimp only [])))
    | ((with_reducible refine vOps_nil' ?_); refine Kr_i (by kernel_rfl) ?_; generalize hk : plain _ _ = G; simp only [lv, E3, E2, E5, rawX, deadX, EB, simprocAttr, DBD3] at hk; subst hk)
    | with_reducible refine vSeq_i ?_
    | with_reducible first | refine vRegion_i (by kernel_rfl) ?_ | refine Kv_i ?_
    | ((with_reducible apply vStrK_i); (focus (rfl; done)))
    | ((with_reducible refine imp_i ?_); intro _)
    | with_reducible first | refine Ks_n ?_ | refine Ks_r ?_ | refine Ks_e ?_ | refine Kl_e ?_ | refine Kx_n ?_ | refine Kl_r ?_ | refine vRet_i ?_ | refine vSkip_i ?_ | refine vExit_i ?_ | refine vBlock_i ?_ | refine Ks_p ?_ | refine Kl_p ?_ | refine blk_p ?_ | exact Kb_p | refine vGoto_i ?_ | refine vLabel_i ?_ | refine Ks_g ?_ | refine Kl_g ?_ | refine blk_g ?_ | refine jmp_g ?_ | refine jmp_n ?_ | refine jmp_r ?_ | refine nog_n ?_ | refine nog_r ?_ | refine blk_n ?_ | refine blk_r ?_ | refine blk_e ?_ | refine blk_o (by decide) ?_ | refine cp_t ?_ | refine cp_f ?_
    | ((with_reducible apply vCond_x); (focus (simp only [lv, E1, E2, E5, ET, T, mvB, bxB, sxB, rxB, fwd, fwds, inv, mOk, EB, simprocAttr, DBD3]; with_reducible first | exact Eq.refl (bo true) | exact Eq.refl (bo false))))
    | ((with_reducible refine And.intro ?_ ?_); (focus (try omega)))
  · rename_i k1 hz
    have e := hI.stop (by simp only []; omega) hz
    refine Kf_r ?_
    simp only [Tryz.f80, E4, E3, E2, E5, rawX, deadX, ET, T, EB, simprocAttr, DBD3, decX, e, rn, List.map_nil]
  · rename_i k1 hz
    have hr := hrg hz
    refine Kl_n ⟨(a + (nx (l.drop a)).2.toNat, acc ++ [(nx (l.drop a)).1]), hI.next (by simp only []; omega) hz, by simp only []; omega, ?_⟩
    have e : ((a + (nx (l.drop a)).2.toNat : Nat) : Int) = (a : Int) + (nx (l.drop a)).2 := by omega
    simp only [e, rn, List.map_append, List.map_cons, List.map_nil]
  · have e := hI.last (by simp only []; omega)
    refine Kf_r ?_
    simp only [Tryz.f80, E4, E3, E2, E5, rawX, deadX, ET, T, EB, simprocAttr, DBD3, decX, e]
end Go.Proofs.YtdpflafjfkooeaaGreatDoorG
