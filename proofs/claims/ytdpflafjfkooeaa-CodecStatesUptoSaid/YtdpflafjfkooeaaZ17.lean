/- YtdpflafjfkooeaaZ17: a part of the proof, joined of its texts. -/
import Derived.Test.YtdpflafjfkooeaaZ16
namespace Go.Proofs.YtdpflafjfkooeaaG
open Go Go.RowKit Go.Proofs Go.Proofs.YtdpflafjfkooeaaG.Dec
set_option linter.unusedSimpArgs false
set_option linter.unusedVariables false
theorem cut_bs2 {l : List Int} {a b : Int} (h0 : 0 ≤ a) (h1 : a ≤ b) : cutSV 1 (bs l) a b = bs ((l.drop a.toNat).take (b - a).toNat) := by simp [cutSV, bs, List.map_drop, List.map_take]
/-- The number that k + 1 bytes would be. -/
def accV (h : Int) (l : List Int) : Nat → Int
  | 0 => rd l 0 - h
  | k + 1 => accV h l k * 64 + rd l ((k + 1 : Nat) : Int) - 128
def hdV (n : Nat) : Int := if n = 1 then 0 else if n = 2 then 192 else if n = 3 then 224 else 240
theorem accV_val (l : List Int) (n : Nat) (h1 : 1 ≤ n) (h4 : n ≤ 4) : accV (hdV n) l (n - 1) = valR l n := by
  have : n = 1 ∨ n = 2 ∨ n = 3 ∨ n = 4 := by omega
  rcases this with rfl | rfl | rfl | rfl
  · simp [accV, hdV, valR]
  · simp [accV, hdV, valR]
  · simp [accV, hdV, valR]
  · simp [accV, hdV, valR]
theorem rd_at {l : List Int} {a j : Nat} : rd (l.drop a) (j : Int) = l.getD (a + j) 0 := by
  simp [rd, List.getD, List.getElem?_drop]
theorem by_bd {l : List Int} (hb : Bytes l) (i : Nat) : 0 ≤ l.getD i 0 ∧ l.getD i 0 ≤ 255 := by
  by_cases h : i < l.length
  · rw [show l.getD i 0 = l[i] by simp [List.getD, List.getElem?_eq_getElem h]]; exact hb _ (List.getElem_mem h)
  · rw [show l.getD i 0 = 0 by simp [List.getD, List.getElem?_eq_none (Nat.le_of_not_lt h)]]; omega
theorem rd_bd {l : List Int} (hb : Bytes l) (i : Int) : 0 ≤ rd l i ∧ rd l i ≤ 255 := by_bd hb _
theorem accV_bd {l : List Int} (hb : Bytes l) {h : Int} (h0 : 0 ≤ h) (h1 : h ≤ 240) : ∀ k, k ≤ 3 → -100000000 ≤ accV h l k ∧ accV h l k ≤ 100000000 := by
  have b := rd_bd hb
  have b0 := b 0; have b1 := b 1; have b2 := b 2; have b3 := b 3
  intro k hk
  have : k = 0 ∨ k = 1 ∨ k = 2 ∨ k = 3 := by omega
  rcases this with rfl | rfl | rfl | rfl
  all_goals (have e1 : (((0 : Nat) + 1 : Nat) : Int) = 1 := rfl; have e2 : (((1 : Nat) + 1 : Nat) : Int) = 2 := rfl; have e3 : (((2 : Nat) + 1 : Nat) : Int) = 3 := rfl; simp only [accV, e1, e2, e3]; omega)
theorem hdV_bd (n : Nat) : 0 ≤ hdV n ∧ hdV n ≤ 240 := by unfold hdV; (repeat' split) <;> omega
theorem tv_hd {n : Nat} (h1 : 1 ≤ n) (h4 : n ≤ 4) : List.getD [TV.v (.raw (.int .i64 0)), .v (.raw (.int .i64 0)), .v (.raw (.int .i64 192)), .v (.raw (.int .i64 224)), .v (.raw (.int .i64 240))] n .dead = .v (.raw (.int .i64 (hdV n))) := by
  have : n = 1 ∨ n = 2 ∨ n = 3 ∨ n = 4 := by omega
  rcases this with rfl | rfl | rfl | rfl <;> rfl
theorem w64b {n : Int} (h1 : -1000000000000 ≤ n) (h2 : n ≤ 1000000000000) : IntKind.i64.wrap n = n := wrap_in (by omega) (by omega)
set_option maxRecDepth 10000 in
set_option maxHeartbeats 4000000 in
theorem value_ok (l : List Int) (hb : Bytes l) (hl : l.length ≤ 140000000000000) (a n : Nat) (h1 : 1 ≤ n) (h4 : n ≤ 4) (hn : a + n ≤ l.length) : CallOk Try.prog 88 [sl (bs l), i64 a, i64 n] (i32 (valR (l.drop a) n)) [] true := by
  have hb' : Bytes (l.drop a) := hb.drop a
  have hbd := accV_bd hb' (hdV_bd n).1 (hdV_bd n).2
  have hby := by_bd hb
  have hh := hdV_bd n
  have w0 : IntKind.i64.wrap (l.getD a 0) = l.getD a 0 := by have := hby a; exact wrap_in (by omega) (by omega)
  have w1 : IntKind.i64.wrap (l.getD a 0 - hdV n) = l.getD a 0 - hdV n := by have := hby a; exact wrap_in (by omega) (by omega)
  refine fn_ok' T_ok (orc_ok _) mixed Try.func88 rfl (by kernel_rfl) (lv [[0, 1, 2], [0, 1, 2, 7], [0, 1, 2, 8], [0, 1, 2, 8, 9], [0, 1, 2, 8, 9, 22], [0, 1, 2, 8, 9], [0, 1, 2, 8, 9], [6]]) 38 rfl (by simp) rfl (by simp [X.all, PX.all, TV.rawR, SV.isRaw]) ?_
  simp only [argsG, Nat.zero_add, Nat.reduceAdd]
  repeat' first
    | ((first
        | ((with_reducible refine vR_cons (by decide) ?_); generalize hk : KtR _ _ _ _ _ _ _ _ _ _ = k)
        | ((first
        | with_reducible refine vOps_cons' ?_) <;> generalize hk : Kt _ _ _ _ _ _ _ _ _ = k)) <;> (simp only [Try.f88, lv, E1, E2, E5, ET, T, orc_mv, noO_mv, mvB, orc_bx, noO_bx, bxB, fwd, fwds, inv, mOk, Int.toNat_natCast, Nat.div_one, Nat.mul_one, Int.reduceToNat, SB, List.not_mem_nil, ↓reduceIte, ne_eq, reduceCtorEq, Nat.reduceLT, Nat.reduceEqDiff, Nat.reduceAdd, Nat.reduceMul, Nat.reduceLeDiff, Nat.reduceDiv, Nat.reduceMod, Nat.reduceSub, Nat.reduceBEq, List.length_map, bs_len, rn_len, cut_bs, cut_bsd, Int.sub_zero , rd_at, Nat.zero_add]; (try simp (disch := omega) only [wrap_in, Int.toNat_natCast, tv_rn, tv_bs, tv_hd, w64b, cut_bs2]); subst hk))
    | with_reducible first | refine Kt_p ?_ | refine Kt_i (by kernel_rfl) ?_ | refine Kr_f (by kernel_rfl) ?_
    | (with_reducible refine Kr_t ?_; simp only [List.length_append, List.length_cons, List.length_nil, Nat.reduceAdd, Nat.reduceSub, List.drop_succ_cons, List.drop_zero])
    | with_reducible first | refine vR_nil ?_ | refine KtR_i (by kernel_rfl) ?_ | refine KrR_i (by kernel_rfl) ?_ | refine vR_skip (by decide) ?_
    | ((with_reducible refine vB_i ?_ ?_) <;> intro _ <;> (first | (exfalso; omega) | (exact absurd trivial ‹¬True›) | (try dsimp only [])))
    | ((with_reducible refine vOps_nil' ?_); refine Kr_i (by kernel_rfl) ?_; generalize hk : plain _ _ = G; simp only [lv, E3, E2, E5, rawX, deadX, SB, List.not_mem_nil, ↓reduceIte, ne_eq, reduceCtorEq, Nat.reduceLT, Nat.reduceEqDiff, Nat.reduceAdd, Nat.reduceMul, Nat.reduceLeDiff, Nat.reduceDiv, Nat.reduceMod, Nat.reduceSub, Nat.reduceBEq, List.length_map, bs_len, rn_len, cut_bs, cut_bsd, Int.sub_zero , rd_at, Nat.zero_add] at hk; subst hk)
    | with_reducible refine vSeq_i ?_
    | with_reducible first | refine vRegion_i (by kernel_rfl) ?_ | refine Kv_i ?_
    | ((with_reducible apply vStrK_i); (focus (rfl; done)))
    | ((with_reducible refine imp_i ?_); intro _)
    | with_reducible first | refine Ks_n ?_ | refine Ks_r ?_ | refine Ks_e ?_ | refine Kl_e ?_ | refine Kx_n ?_ | refine Kl_r ?_ | refine vRet_i ?_ | refine vSkip_i ?_ | refine vExit_i ?_ | refine vBlock_i ?_ | refine Ks_p ?_ | refine Kl_p ?_ | refine blk_p ?_ | exact Kb_p | refine vGoto_i ?_ | refine vLabel_i ?_ | refine Ks_g ?_ | refine Kl_g ?_ | refine blk_g ?_ | refine jmp_g ?_ | refine jmp_n ?_ | refine jmp_r ?_ | refine nog_n ?_ | refine nog_r ?_ | refine blk_n ?_ | refine blk_r ?_ | refine blk_e ?_ | refine blk_o (by decide) ?_ | refine cp_t ?_ | refine cp_f ?_
    | ((with_reducible apply vCond_x); (focus (simp only [lv, E1, E2, E5, ET, T, orc_mv, noO_mv, mvB, orc_bx, noO_bx, bxB, fwd, fwds, inv, mOk, Int.toNat_natCast, Nat.div_one, Nat.mul_one, Int.reduceToNat, SB, List.not_mem_nil, ↓reduceIte, ne_eq, reduceCtorEq, Nat.reduceLT, Nat.reduceEqDiff, Nat.reduceAdd, Nat.reduceMul, Nat.reduceLeDiff, Nat.reduceDiv, Nat.reduceMod, Nat.reduceSub, Nat.reduceBEq, List.length_map, bs_len, rn_len, cut_bs, cut_bsd, Int.sub_zero , rd_at, Nat.zero_add]; with_reducible first | exact Eq.refl (bo true) | exact Eq.refl (bo false))))
    | ((with_reducible refine And.intro ?_ ?_); (focus (try omega)))
  all_goals try omega
  rw [w0, w1]
  refine vLoop_s (fun k : Nat => [(.t 0, .t (sl (bs l))), (.t 1, .t (i64 a)), (.t 2, .t (i64 n)), (.t 8, .t (i64 (accV (hdV n) (l.drop a) k))), (.t 9, .t (i64 ((k : Int) + 1)))]) (fun k => k + 1 ≤ n) (fun k => n - k) 0 (by omega) ?_ ?_
  · have e := rd_at (l := l) (a := a) (j := 0)
    simp only [Int.natCast_zero, Nat.add_zero] at e
    simp only [accV, e, Int.natCast_zero, Int.zero_add]
  intro k hk
  have hbk := hbd k (by omega)
  have hbk1 := fun h : k + 1 < n => hbd (k + 1) (by omega)
  have hx := hby (a + (k + 1))
  have e1 : IntKind.i64.wrap ((a : Int) + ((k : Int) + 1)) = ((a + (k + 1) : Nat) : Int) := by rw [wrap_in (by omega) (by omega)]; omega
  have e2 : IntKind.i64.wrap (l.getD (a + (k + 1)) 0) = l.getD (a + (k + 1)) 0 := wrap_in (by omega) (by omega)
  have e3 : IntKind.i64.wrap (accV (hdV n) (l.drop a) k * 64) = accV (hdV n) (l.drop a) k * 64 := wrap_in (by omega) (by omega)
  repeat' first
    | ((first
        | ((with_reducible refine vR_cons (by decide) ?_); generalize hk : KtR _ _ _ _ _ _ _ _ _ _ = k)
        | ((first
        | with_reducible refine vOps_cons' ?_) <;> generalize hk : Kt _ _ _ _ _ _ _ _ _ = k)) <;> (simp only [Try.f88, lv, E1, E2, E5, ET, T, orc_mv, noO_mv, mvB, orc_bx, noO_bx, bxB, fwd, fwds, inv, mOk, Int.toNat_natCast, Nat.div_one, Nat.mul_one, Int.reduceToNat, SB, List.not_mem_nil, ↓reduceIte, ne_eq, reduceCtorEq, Nat.reduceLT, Nat.reduceEqDiff, Nat.reduceAdd, Nat.reduceMul, Nat.reduceLeDiff, Nat.reduceDiv, Nat.reduceMod, Nat.reduceSub, Nat.reduceBEq, List.length_map, bs_len, rn_len, cut_bs, cut_bsd, Int.sub_zero , rd_at, Nat.zero_add]; (try simp (disch := omega) only [wrap_in, Int.toNat_natCast, tv_rn, tv_bs, tv_hd, w64b, cut_bs2]); subst hk))
    | with_reducible first | refine Kt_p ?_ | refine Kt_i (by kernel_rfl) ?_ | refine Kr_f (by kernel_rfl) ?_
    | (with_reducible refine Kr_t ?_; simp only [List.length_append, List.length_cons, List.length_nil, Nat.reduceAdd, Nat.reduceSub, List.drop_succ_cons, List.drop_zero])
    | with_reducible first | refine vR_nil ?_ | refine KtR_i (by kernel_rfl) ?_ | refine KrR_i (by kernel_rfl) ?_ | refine vR_skip (by decide) ?_
    | ((with_reducible refine vB_i ?_ ?_) <;> intro _ <;> (first | (exfalso; omega) | (exact absurd trivial ‹¬True›) | (try dsimp only [])))
    | ((with_reducible refine vOps_nil' ?_); refine Kr_i (by kernel_rfl) ?_; generalize hk : plain _ _ = G; simp only [lv, E3, E2, E5, rawX, deadX, SB, List.not_mem_nil, ↓reduceIte, ne_eq, reduceCtorEq, Nat.reduceLT, Nat.reduceEqDiff, Nat.reduceAdd, Nat.reduceMul, Nat.reduceLeDiff, Nat.reduceDiv, Nat.reduceMod, Nat.reduceSub, Nat.reduceBEq, List.length_map, bs_len, rn_len, cut_bs, cut_bsd, Int.sub_zero , rd_at, Nat.zero_add] at hk; subst hk)
    | with_reducible refine vSeq_i ?_
    | with_reducible first | refine vRegion_i (by kernel_rfl) ?_ | refine Kv_i ?_
    | ((with_reducible apply vStrK_i); (focus (rfl; done)))
    | ((with_reducible refine imp_i ?_); intro _)
    | with_reducible first | refine Ks_n ?_ | refine Ks_r ?_ | refine Ks_e ?_ | refine Kl_e ?_ | refine Kx_n ?_ | refine Kl_r ?_ | refine vRet_i ?_ | refine vSkip_i ?_ | refine vExit_i ?_ | refine vBlock_i ?_ | refine Ks_p ?_ | refine Kl_p ?_ | refine blk_p ?_ | exact Kb_p | refine vGoto_i ?_ | refine vLabel_i ?_ | refine Ks_g ?_ | refine Kl_g ?_ | refine blk_g ?_ | refine jmp_g ?_ | refine jmp_n ?_ | refine jmp_r ?_ | refine nog_n ?_ | refine nog_r ?_ | refine blk_n ?_ | refine blk_r ?_ | refine blk_e ?_ | refine blk_o (by decide) ?_ | refine cp_t ?_ | refine cp_f ?_
    | ((with_reducible apply vCond_x); (focus (simp only [lv, E1, E2, E5, ET, T, orc_mv, noO_mv, mvB, orc_bx, noO_bx, bxB, fwd, fwds, inv, mOk, Int.toNat_natCast, Nat.div_one, Nat.mul_one, Int.reduceToNat, SB, List.not_mem_nil, ↓reduceIte, ne_eq, reduceCtorEq, Nat.reduceLT, Nat.reduceEqDiff, Nat.reduceAdd, Nat.reduceMul, Nat.reduceLeDiff, Nat.reduceDiv, Nat.reduceMod, Nat.reduceSub, Nat.reduceBEq, List.length_map, bs_len, rn_len, cut_bs, cut_bsd, Int.sub_zero , rd_at, Nat.zero_add]; with_reducible first | exact Eq.refl (bo true) | exact Eq.refl (bo false))))
    | ((with_reducible refine And.intro ?_ ?_); (focus (try omega)))
  · rename_i hlt
    have e5 := hbk1 (by omega)
    have e6 : accV (hdV n) (l.drop a) (k + 1) = accV (hdV n) (l.drop a) k * 64 + l.getD (a + (k + 1)) 0 - 128 := by rw [accV, rd_at]
    refine Kl_n ⟨k + 1, by omega, by omega, ?_⟩
    rw [show ((a : Int) + ((k : Int) + 1)).toNat = a + (k + 1) by omega, e2, wrap_in (n := accV (hdV n) (l.drop a) k * 64 + l.getD (a + (k + 1)) 0) (by omega) (by omega), wrap_in (n := accV (hdV n) (l.drop a) k * 64 + l.getD (a + (k + 1)) 0 - 128) (by omega) (by omega), ← e6]
    simp only [Int.natCast_add, Int.natCast_one]
  · rename_i hlt
    refine Kf_r ?_
    have e5 := accV_val (l.drop a) n h1 h4
    rw [show n - 1 = k by omega] at e5
    rw [e5] at hbk
    simp only [Try.f88, E4, E3, E2, E5, rawX, deadX, ET, T, SB, List.not_mem_nil, ↓reduceIte, ne_eq, reduceCtorEq, Nat.reduceLT, Nat.reduceEqDiff, Nat.reduceAdd, Nat.reduceMul, Nat.reduceLeDiff, Nat.reduceDiv, Nat.reduceMod, Nat.reduceSub, Nat.reduceBEq, List.length_map, bs_len, rn_len, cut_bs, cut_bsd, Int.sub_zero , rd_at, Nat.zero_add, e5]
    rw [wrap32_in (by omega) (by omega)]
theorem valR_bd {l : List Int} (hb : Bytes l) {n : Nat} (h1 : 1 ≤ n) (h4 : n ≤ 4) : R32 (valR l n) := by
  have := accV_bd hb (hdV_bd n).1 (hdV_bd n).2 (n - 1) (by omega)
  rw [accV_val l n h1 h4] at this
  exact ⟨by omega, by omega⟩
theorem strB_list (x : List Int) : (strB x).toList = x.map fun n => UInt8.ofNat n.toNat := by
  rw [ByteArray.toList_eq]; simp [strB]
theorem byte_inj {x y : Int} (hx : 0 ≤ x ∧ x ≤ 255) (hy : 0 ≤ y ∧ y ≤ 255) (h : UInt8.ofNat x.toNat = UInt8.ofNat y.toNat) : x = y := by
  have := congrArg UInt8.toNat h
  simp at this
  omega
theorem strB_eq {x y : List Int} (hx : Bytes x) (hy : Bytes y) : (strB x).toList = (strB y).toList ↔ x = y := by
  rw [strB_list, strB_list]
  constructor
  · intro h
    induction x generalizing y with
    | nil => simpa using h.symm
    | cons a x ih =>
      cases y with
      | nil => simp at h
      | cons b y =>
        simp only [List.map_cons, List.cons.injEq] at h
        rw [byte_inj (hx a (by simp)) (hy b (by simp)) h.1, ih (fun z hz => hx z (by simp [hz])) (fun z hz => hy z (by simp [hz])) h.2]
  · rintro rfl; rfl
theorem form_F {r : Int} (h : szU r ≠ 0) : Dec.form r = formF r := by
  unfold Dec.form formF
  rcases size_range r with h1 | h1 | h1 | h1 | h1
  · exact absurd h1 h
  · have := size_one h1; rw [if_pos h1, if_pos (by omega)]
  · have := size_two h1; rw [if_neg (by omega), if_pos h1, if_neg (by omega), if_pos (by omega)]
  · have := size_three h1; rw [if_neg (by omega), if_neg (by omega), if_pos h1, if_neg (by omega), if_neg (by omega), if_pos (by omega)]
  · have := size_four h1; rw [if_neg (by omega), if_neg (by omega), if_neg (by omega), if_pos h1, if_neg (by omega), if_neg (by omega), if_neg (by omega)]
theorem forms_F {l : List Int} (h : Gd l) : forms l = encF l := by
  induction l with
  | nil => rfl
  | cons r l ih =>
    rw [forms_cons, ih fun x hx => h x (by simp [hx]), form_F (h r (by simp))]; rfl
theorem gd_scal (l : List Int) : Gd l ↔ scal l := by
  constructor
  · intro h i hi
    rw [show l.getD i 0 = l[i] by simp [List.getD, List.getElem?_eq_getElem hi]]; exact h _ (List.getElem_mem hi)
  · intro h r hr
    obtain ⟨i, hi, rfl⟩ := List.getElem_of_mem hr
    have := h i hi
    rwa [show l.getD i 0 = l[i] by simp [List.getD, List.getElem?_eq_getElem hi]] at this
/-- The document's test. -/
theorem at_test {l : List Int} (hb : Bytes l) {n : Nat} (h1 : 1 ≤ n) (h4 : n ≤ 4) (hn : n ≤ l.length) (hs : szU (valR l n) = n) : (strB (formF (valR l n))).toList = (strB (l.take n)).toList ↔ Is l n := by
  have hne : szU (valR l n) ≠ 0 := by omega
  rw [← form_F hne, strB_eq (fun x hx => form_byte _ x hx) (hb.take n), ← is_iff l hb n h1 h4 hn]
  exact ⟨fun h => ⟨hs, h⟩, fun h => h.2⟩
theorem nx_is {l : List Int} {n : Nat} (hb : Bytes l) (h : Is l n) : nx l = (valR l n, (n : Int)) := by
  rcases nx_cases l with ⟨m, hm, he⟩ | ⟨hno, _⟩
  · obtain rfl := is_one hm h
    rw [he, is_val l hb m hm]
  · exact absurd h (hno n)
theorem nx_no {l : List Int} (h : ∀ n, ¬ Is l n) : nx l = (0, 0) := by
  rcases nx_cases l with ⟨m, hm, he⟩ | ⟨_, he⟩
  · exact absurd hm (h m)
  · exact he
set_option maxRecDepth 10000 in
set_option maxHeartbeats 4000000 in
theorem at1_ok (l : List Int) (hb : Bytes l) (hl : l.length ≤ 140000000000000) (a : Nat) (ha : a ≤ l.length) : CallOk Try.prog 82 [sl (bs l), i64 a] (.tup [.one (.v (.raw (.int .i32 (nx (l.drop a)).1))), .one (.v (.raw (.int .i64 (nx (l.drop a)).2)))]) [] true := by
  have hb' : Bytes (l.drop a) := hb.drop a
  refine fn_ok' T_ok (orc_ok _) mixed Try.func82 rfl (by kernel_rfl) (lv [[0, 1], [0, 1, 6], [0, 1, 6, 17], [0, 1, 6], [0, 1, 6, 7], [0, 1, 6, 7, 40], [4, 5], [4, 5]]) 43 rfl (by simp) rfl (by simp [X.all, PX.all, TV.rawR, SV.isRaw]) ?_
  simp only [argsG, Nat.zero_add, Nat.reduceAdd]
  repeat' first
    | ((first
        | ((with_reducible refine vR_cons (by decide) ?_); generalize hk : KtR _ _ _ _ _ _ _ _ _ _ = k)
        | ((first
        | with_reducible refine vOps_cons' ?_) <;> generalize hk : Kt _ _ _ _ _ _ _ _ _ = k)) <;> (simp only [Try.f82, lv, E1, E2, E5, ET, T, orc_mv, noO_mv, mvB, orc_bx, noO_bx, bxB, fwd, fwds, inv, mOk, Int.toNat_natCast, Nat.div_one, Nat.mul_one, Int.reduceToNat, SB, List.not_mem_nil, ↓reduceIte, ne_eq, reduceCtorEq, Nat.reduceLT, Nat.reduceEqDiff, Nat.reduceAdd, Nat.reduceMul, Nat.reduceLeDiff, Nat.reduceDiv, Nat.reduceMod, Nat.reduceSub, Nat.reduceBEq, List.length_map, bs_len, rn_len, cut_bs, cut_bsd, Int.sub_zero , rd_at, Nat.zero_add]; (try simp (disch := omega) only [wrap_in, Int.toNat_natCast, tv_rn, tv_bs, tv_hd, w64b, cut_bs2]); subst hk))
    | with_reducible first | refine Kt_p ?_ | refine Kt_i (by kernel_rfl) ?_ | refine Kr_f (by kernel_rfl) ?_
    | (with_reducible refine Kr_t ?_; simp only [List.length_append, List.length_cons, List.length_nil, Nat.reduceAdd, Nat.reduceSub, List.drop_succ_cons, List.drop_zero])
    | with_reducible first | refine vR_nil ?_ | refine KtR_i (by kernel_rfl) ?_ | refine KrR_i (by kernel_rfl) ?_ | refine vR_skip (by decide) ?_
    | ((with_reducible refine vB_i ?_ ?_) <;> intro _ <;> (first | (exfalso; omega) | (exact absurd trivial ‹¬True›) | (try dsimp only [])))
    | ((with_reducible refine vOps_nil' ?_); refine Kr_i (by kernel_rfl) ?_; generalize hk : plain _ _ = G; simp only [lv, E3, E2, E5, rawX, deadX, SB, List.not_mem_nil, ↓reduceIte, ne_eq, reduceCtorEq, Nat.reduceLT, Nat.reduceEqDiff, Nat.reduceAdd, Nat.reduceMul, Nat.reduceLeDiff, Nat.reduceDiv, Nat.reduceMod, Nat.reduceSub, Nat.reduceBEq, List.length_map, bs_len, rn_len, cut_bs, cut_bsd, Int.sub_zero , rd_at, Nat.zero_add] at hk; subst hk)
    | with_reducible refine vSeq_i ?_
    | with_reducible first | refine vRegion_i (by kernel_rfl) ?_ | refine Kv_i ?_
    | ((with_reducible apply vStrK_i); (focus (rfl; done)))
    | ((with_reducible refine imp_i ?_); intro _)
    | with_reducible first | refine Ks_n ?_ | refine Ks_r ?_ | refine Ks_e ?_ | refine Kl_e ?_ | refine Kx_n ?_ | refine Kl_r ?_ | refine vRet_i ?_ | refine vSkip_i ?_ | refine vExit_i ?_ | refine vBlock_i ?_ | refine Ks_p ?_ | refine Kl_p ?_ | refine blk_p ?_ | exact Kb_p | refine vGoto_i ?_ | refine vLabel_i ?_ | refine Ks_g ?_ | refine Kl_g ?_ | refine blk_g ?_ | refine jmp_g ?_ | refine jmp_n ?_ | refine jmp_r ?_ | refine nog_n ?_ | refine nog_r ?_ | refine blk_n ?_ | refine blk_r ?_ | refine blk_e ?_ | refine blk_o (by decide) ?_ | refine cp_t ?_ | refine cp_f ?_
    | ((with_reducible apply vCond_x); (focus (simp only [lv, E1, E2, E5, ET, T, orc_mv, noO_mv, mvB, orc_bx, noO_bx, bxB, fwd, fwds, inv, mOk, Int.toNat_natCast, Nat.div_one, Nat.mul_one, Int.reduceToNat, SB, List.not_mem_nil, ↓reduceIte, ne_eq, reduceCtorEq, Nat.reduceLT, Nat.reduceEqDiff, Nat.reduceAdd, Nat.reduceMul, Nat.reduceLeDiff, Nat.reduceDiv, Nat.reduceMod, Nat.reduceSub, Nat.reduceBEq, List.length_map, bs_len, rn_len, cut_bs, cut_bsd, Int.sub_zero , rd_at, Nat.zero_add]; with_reducible first | exact Eq.refl (bo true) | exact Eq.refl (bo false))))
    | ((with_reducible refine And.intro ?_ ?_); (focus (try omega)))
  all_goals try omega
  refine vLoop_s (fun n : Nat => [(.t 0, .t (sl (bs l))), (.t 1, .t (i64 a)), (.t 6, .t (i64 n))]) (fun n => 1 ≤ n ∧ n ≤ 5 ∧ ∀ m, m < n → ¬ Is (l.drop a) m) (fun n => 5 - n) 1 ⟨by omega, by omega, fun m hm h => by have := is_range h; omega⟩ rfl ?_
  rintro n ⟨hn1, hn5, hno⟩
  have ew : IntKind.i64.wrap ((a : Int) + (n : Int)) = (a : Int) + n := wrap_in (by omega) (by omega)
  have hld : (l.drop a).length = l.length - a := by simp
  have hv := fun h : n ≤ 4 => valR_bd hb' hn1 h
  repeat' first
    | ((first
        | ((with_reducible refine vR_cons (by decide) ?_); generalize hk : KtR _ _ _ _ _ _ _ _ _ _ = k)
        | ((first
        | with_reducible refine vOps_cons' ?_
        | ((with_reducible apply orc_i); (focus (exact value_ok l hb hl a n hn1 (by omega) (by omega); done)))
        | ((with_reducible apply orc_i); (focus (exact size1_ok _ (hv (by omega)); done)))
        | ((with_reducible apply orc_i); (focus (exact form_ok _ (hv (by omega)); done)))) <;> generalize hk : Kt _ _ _ _ _ _ _ _ _ = k)) <;> (simp only [Try.f82, lv, E1, E2, E5, ET, T, orc_mv, noO_mv, mvB, orc_bx, noO_bx, bxB, fwd, fwds, inv, mOk, Int.toNat_natCast, Nat.div_one, Nat.mul_one, Int.reduceToNat, SB, List.not_mem_nil, ↓reduceIte, ne_eq, reduceCtorEq, Nat.reduceLT, Nat.reduceEqDiff, Nat.reduceAdd, Nat.reduceMul, Nat.reduceLeDiff, Nat.reduceDiv, Nat.reduceMod, Nat.reduceSub, Nat.reduceBEq, List.length_map, bs_len, rn_len, cut_bs, cut_bsd, Int.sub_zero , rd_at, Nat.zero_add]; (try simp (disch := omega) only [wrap_in, Int.toNat_natCast, tv_rn, tv_bs, tv_hd, w64b, cut_bs2]); subst hk))
    | with_reducible first | refine Kt_p ?_ | refine Kt_i (by kernel_rfl) ?_ | refine Kr_f (by kernel_rfl) ?_
    | (with_reducible refine Kr_t ?_; simp only [List.length_append, List.length_cons, List.length_nil, Nat.reduceAdd, Nat.reduceSub, List.drop_succ_cons, List.drop_zero])
    | with_reducible first | refine vR_nil ?_ | refine KtR_i (by kernel_rfl) ?_ | refine KrR_i (by kernel_rfl) ?_ | refine vR_skip (by decide) ?_
    | ((with_reducible refine vB_i ?_ ?_) <;> intro _ <;> (first | (exfalso; omega) | (exact absurd trivial ‹¬True›) | (try dsimp only [])))
    | ((with_reducible refine vOps_nil' ?_); refine Kr_i (by kernel_rfl) ?_; generalize hk : plain _ _ = G; simp only [lv, E3, E2, E5, rawX, deadX, SB, List.not_mem_nil, ↓reduceIte, ne_eq, reduceCtorEq, Nat.reduceLT, Nat.reduceEqDiff, Nat.reduceAdd, Nat.reduceMul, Nat.reduceLeDiff, Nat.reduceDiv, Nat.reduceMod, Nat.reduceSub, Nat.reduceBEq, List.length_map, bs_len, rn_len, cut_bs, cut_bsd, Int.sub_zero , rd_at, Nat.zero_add] at hk; subst hk)
    | with_reducible refine vSeq_i ?_
    | with_reducible first | refine vRegion_i (by kernel_rfl) ?_ | refine Kv_i ?_
    | ((with_reducible apply vStrK_i); (focus (rfl; done)))
    | ((with_reducible refine imp_i ?_); intro _)
    | with_reducible first | refine Ks_n ?_ | refine Ks_r ?_ | refine Ks_e ?_ | refine Kl_e ?_ | refine Kx_n ?_ | refine Kl_r ?_ | refine vRet_i ?_ | refine vSkip_i ?_ | refine vExit_i ?_ | refine vBlock_i ?_ | refine Ks_p ?_ | refine Kl_p ?_ | refine blk_p ?_ | exact Kb_p | refine vGoto_i ?_ | refine vLabel_i ?_ | refine Ks_g ?_ | refine Kl_g ?_ | refine blk_g ?_ | refine jmp_g ?_ | refine jmp_n ?_ | refine jmp_r ?_ | refine nog_n ?_ | refine nog_r ?_ | refine blk_n ?_ | refine blk_r ?_ | refine blk_e ?_ | refine blk_o (by decide) ?_ | refine cp_t ?_ | refine cp_f ?_
    | ((with_reducible apply vCond_x); (focus (simp only [lv, E1, E2, E5, ET, T, orc_mv, noO_mv, mvB, orc_bx, noO_bx, bxB, fwd, fwds, inv, mOk, Int.toNat_natCast, Nat.div_one, Nat.mul_one, Int.reduceToNat, SB, List.not_mem_nil, ↓reduceIte, ne_eq, reduceCtorEq, Nat.reduceLT, Nat.reduceEqDiff, Nat.reduceAdd, Nat.reduceMul, Nat.reduceLeDiff, Nat.reduceDiv, Nat.reduceMod, Nat.reduceSub, Nat.reduceBEq, List.length_map, bs_len, rn_len, cut_bs, cut_bsd, Int.sub_zero , rd_at, Nat.zero_add]; with_reducible first | exact Eq.refl (bo true) | exact Eq.refl (bo false))))
    | ((with_reducible refine And.intro ?_ ?_); (focus (try omega)))
  · rename_i h4 h5 hs ht
    rw [if_neg (by omega), show ((a : Int) + (n : Int) - (a : Int)).toNat = n by omega] at ht
    have hi := (at_test hb' hn1 (by omega) (by omega) hs).1 ht
    rw [nx_is hb' hi]
    refine Kf_r ?_
    simp only [Try.f82, E4, E3, E2, E5, rawX, deadX, ET, T, SB, List.not_mem_nil, ↓reduceIte, ne_eq, reduceCtorEq, Nat.reduceLT, Nat.reduceEqDiff, Nat.reduceAdd, Nat.reduceMul, Nat.reduceLeDiff, Nat.reduceDiv, Nat.reduceMod, Nat.reduceSub, Nat.reduceBEq, List.length_map, bs_len, rn_len, cut_bs, cut_bsd, Int.sub_zero , rd_at, Nat.zero_add]
  · rename_i h4 h5 hs ht
    rw [if_neg (by omega), show ((a : Int) + (n : Int) - (a : Int)).toNat = n by omega] at ht
    refine Kl_n ⟨n + 1, ⟨by omega, by omega, fun m hm hi => ?_⟩, by omega, by simp only [Int.natCast_add, Int.natCast_one]⟩
    rcases Nat.lt_or_eq_of_le (Nat.le_of_lt_succ hm) with h | h
    · exact hno m h hi
    · subst h; exact ht ((at_test hb' hn1 (by omega) (by omega) hs).2 hi)
  · rename_i h4 h5 hs
    refine Kl_n ⟨n + 1, ⟨by omega, by omega, fun m hm hi => ?_⟩, by omega, by simp only [Int.natCast_add, Int.natCast_one]⟩
    rcases Nat.lt_or_eq_of_le (Nat.le_of_lt_succ hm) with h | h
    · exact hno m h hi
    · subst h; exact hs ((is_iff _ hb' m hn1 (by omega) (by omega)).2 hi).1
  all_goals
    rw [nx_no fun m hi => hno m (by have := is_range hi; omega) hi]
    refine Kf_r ?_
    simp only [Try.f82, E4, E3, E2, E5, rawX, deadX, ET, T, SB, List.not_mem_nil, ↓reduceIte, ne_eq, reduceCtorEq, Nat.reduceLT, Nat.reduceEqDiff, Nat.reduceAdd, Nat.reduceMul, Nat.reduceLeDiff, Nat.reduceDiv, Nat.reduceMod, Nat.reduceSub, Nat.reduceBEq, List.length_map, bs_len, rn_len, cut_bs, cut_bsd, Int.sub_zero , rd_at, Nat.zero_add]
abbrev decX (l : List Int) : X := .tup [.one (.sr 0), .one (.v (.raw (.int .i64 (dec l).2.1))), .one (.v (.raw (.int .i64 (dec l).2.2)))]
theorem dec_step {l : List Int} {d a : Nat} {acc : List Int} (h : l.length - a ≤ d + 1) (ha : a < l.length) : decR (d + 1) (l.drop a) acc a = if (nx (l.drop a)).2 = 0 then ([], (a : Int), 10) else decR d (l.drop (a + (nx (l.drop a)).2.toNat)) (acc ++ [(nx (l.drop a)).1]) (a + (nx (l.drop a)).2.toNat) := by
  have hne : ¬ l.drop a = [] := fun e => by have := congrArg List.length e; simp at this; omega
  rw [decR, if_neg hne, List.drop_drop]
theorem dec_done {l : List Int} {d a : Nat} {acc : List Int} (ha : l.length ≤ a) : decR d (l.drop a) acc a = (acc, 0, 0) := by
  have : l.drop a = [] := List.drop_eq_nil_of_le ha
  cases d with
  | zero => rfl
  | succ d => rw [decR, if_pos this]
/-- How far a text is read. -/
structure DecI (l : List Int) (s : Nat × List Int) : Prop where
  le : s.1 ≤ l.length
  len : s.2.length ≤ s.1
  rest : decR (l.length - s.1) (l.drop s.1) s.2 s.1 = dec l
theorem DecI.init (l : List Int) : DecI l (0, []) := ⟨by simp, by simp, by simp [dec]⟩
theorem DecI.stop {l s} (h : DecI l s) (hs : s.1 < l.length) (hz : (nx (l.drop s.1)).2 = 0) : dec l = ([], (s.1 : Int), 10) := by
  obtain ⟨d, hd⟩ : ∃ d, l.length - s.1 = d + 1 := ⟨l.length - s.1 - 1, by omega⟩
  have := h.rest
  rw [hd, dec_step (by omega) hs, if_pos hz] at this
  exact this.symm
theorem DecI.last {l s} (h : DecI l s) (hs : l.length ≤ s.1) : dec l = (s.2, 0, 0) := by rw [← h.rest, dec_done hs]
theorem nx_rng {l : List Int} (hz : ¬ (nx l).2 = 0) : 1 ≤ (nx l).2 ∧ (nx l).2 ≤ 4 ∧ (nx l).2 ≤ l.length := (nx_range (l := l)).2 hz
theorem decR_fuel {l : List Int} : ∀ (d e a : Nat) (acc : List Int), l.length - a ≤ d → l.length - a ≤ e → decR d (l.drop a) acc a = decR e (l.drop a) acc a := by
  intro d
  induction d with
  | zero => intro e a acc h1 h2; rw [dec_done (by omega), dec_done (by omega)]
  | succ d ih =>
    intro e a acc h1 h2
    by_cases ha : a < l.length
    · obtain ⟨e, rfl⟩ : ∃ k, e = k + 1 := ⟨e - 1, by omega⟩
      rw [dec_step h1 ha, dec_step h2 ha]
      by_cases hz : (nx (l.drop a)).2 = 0
      · rw [if_pos hz, if_pos hz]
      · rw [if_neg hz, if_neg hz]
        have := nx_rng hz
        exact ih _ _ _ (by omega) (by omega)
    · rw [dec_done (by omega), dec_done (by omega)]
theorem DecI.next {l s} (h : DecI l s) (hs : s.1 < l.length) (hz : ¬ (nx (l.drop s.1)).2 = 0) : DecI l (s.1 + (nx (l.drop s.1)).2.toNat, s.2 ++ [(nx (l.drop s.1)).1]) := by
  have hr := nx_rng hz
  rw [List.length_drop] at hr
  have hl := h.len
  obtain ⟨d, hd⟩ : ∃ d, l.length - s.1 = d + 1 := ⟨l.length - s.1 - 1, by omega⟩
  refine ⟨by simp only []; omega, by simp only [List.length_append, List.length_cons, List.length_nil]; omega, ?_⟩
  have := h.rest
  rw [hd, dec_step (by omega) hs, if_neg hz] at this
  rw [← this]
  exact decR_fuel _ _ _ _ (by omega) (by omega)
theorem nx_bd {l : List Int} (hb : Bytes l) : R32 (nx l).1 ∧ 0 ≤ (nx l).2 ∧ (nx l).2 ≤ 4 := by
  rcases nx_cases l with ⟨n, hn, he⟩ | ⟨_, he⟩
  · have := is_range hn
    rw [he, ← is_val l hb n hn]
    exact ⟨valR_bd hb this.1 this.2.1, by simp only []; omega, by simp only []; omega⟩
  · rw [he]; exact ⟨⟨by simp, by simp⟩, by simp, by simp⟩
set_option maxRecDepth 10000 in
set_option maxHeartbeats 4000000 in
theorem decode1_ok (l : List Int) (hb : Bytes l) (hl : l.length ≤ 30000000000000) : CallOk Try.prog 54 [sl (bs l)] (decX l) [(21, 1, rn (dec l).1)] true := by
  refine fn_ok' T_ok (orc_ok _) mixed Try.func54 rfl (by kernel_rfl) (lv [[0], [0, 5], [0, 5, 6], [0, 5, 6, 12], [0, 5, 6, 7, 8], [0, 5, 6, 7, 8, 20], [2, 3, 4], [0, 5, 6, 8], [0, 5, 6], [2, 3, 4]]) 30 rfl (by simp) rfl (fun _ => ⟨rfl, fun r hr => by simp at hr; subst hr; exact rn_raw⟩) ?_
  simp only [argsG, Nat.zero_add, Nat.reduceAdd]
  repeat' first
    | ((first
        | ((with_reducible refine vR_cons (by decide) ?_); generalize hk : KtR _ _ _ _ _ _ _ _ _ _ = k)
        | ((first
        | with_reducible refine vOps_cons' ?_) <;> generalize hk : Kt _ _ _ _ _ _ _ _ _ = k)) <;> (simp only [Try.f54, lv, E1, E2, E5, ET, T, orc_mv, noO_mv, mvB, orc_bx, noO_bx, bxB, fwd, fwds, inv, mOk, Int.toNat_natCast, Nat.div_one, Nat.mul_one, Int.reduceToNat, SB, List.not_mem_nil, ↓reduceIte, ne_eq, reduceCtorEq, Nat.reduceLT, Nat.reduceEqDiff, Nat.reduceAdd, Nat.reduceMul, Nat.reduceLeDiff, Nat.reduceDiv, Nat.reduceMod, Nat.reduceSub, Nat.reduceBEq, List.length_map, bs_len, rn_len, cut_bs, cut_bsd, Int.sub_zero , rd_at, Nat.zero_add]; (try simp (disch := omega) only [wrap_in, Int.toNat_natCast, tv_rn, tv_bs, tv_hd, w64b, cut_bs2]); subst hk))
    | with_reducible first | refine Kt_p ?_ | refine Kt_i (by kernel_rfl) ?_ | refine Kr_f (by kernel_rfl) ?_
    | (with_reducible refine Kr_t ?_; simp only [List.length_append, List.length_cons, List.length_nil, Nat.reduceAdd, Nat.reduceSub, List.drop_succ_cons, List.drop_zero])
    | with_reducible first | refine vR_nil ?_ | refine KtR_i (by kernel_rfl) ?_ | refine KrR_i (by kernel_rfl) ?_ | refine vR_skip (by decide) ?_
    | ((with_reducible refine vB_i ?_ ?_) <;> intro _ <;> (first | (exfalso; omega) | (exact absurd trivial ‹¬True›) | (try dsimp only [])))
    | ((with_reducible refine vOps_nil' ?_); refine Kr_i (by kernel_rfl) ?_; generalize hk : plain _ _ = G; simp only [lv, E3, E2, E5, rawX, deadX, SB, List.not_mem_nil, ↓reduceIte, ne_eq, reduceCtorEq, Nat.reduceLT, Nat.reduceEqDiff, Nat.reduceAdd, Nat.reduceMul, Nat.reduceLeDiff, Nat.reduceDiv, Nat.reduceMod, Nat.reduceSub, Nat.reduceBEq, List.length_map, bs_len, rn_len, cut_bs, cut_bsd, Int.sub_zero , rd_at, Nat.zero_add] at hk; subst hk)
    | with_reducible refine vSeq_i ?_
    | with_reducible first | refine vRegion_i (by kernel_rfl) ?_ | refine Kv_i ?_
    | ((with_reducible apply vStrK_i); (focus (rfl; done)))
    | ((with_reducible refine imp_i ?_); intro _)
    | with_reducible first | refine Ks_n ?_ | refine Ks_r ?_ | refine Ks_e ?_ | refine Kl_e ?_ | refine Kx_n ?_ | refine Kl_r ?_ | refine vRet_i ?_ | refine vSkip_i ?_ | refine vExit_i ?_ | refine vBlock_i ?_ | refine Ks_p ?_ | refine Kl_p ?_ | refine blk_p ?_ | exact Kb_p | refine vGoto_i ?_ | refine vLabel_i ?_ | refine Ks_g ?_ | refine Kl_g ?_ | refine blk_g ?_ | refine jmp_g ?_ | refine jmp_n ?_ | refine jmp_r ?_ | refine nog_n ?_ | refine nog_r ?_ | refine blk_n ?_ | refine blk_r ?_ | refine blk_e ?_ | refine blk_o (by decide) ?_ | refine cp_t ?_ | refine cp_f ?_
    | ((with_reducible apply vCond_x); (focus (simp only [lv, E1, E2, E5, ET, T, orc_mv, noO_mv, mvB, orc_bx, noO_bx, bxB, fwd, fwds, inv, mOk, Int.toNat_natCast, Nat.div_one, Nat.mul_one, Int.reduceToNat, SB, List.not_mem_nil, ↓reduceIte, ne_eq, reduceCtorEq, Nat.reduceLT, Nat.reduceEqDiff, Nat.reduceAdd, Nat.reduceMul, Nat.reduceLeDiff, Nat.reduceDiv, Nat.reduceMod, Nat.reduceSub, Nat.reduceBEq, List.length_map, bs_len, rn_len, cut_bs, cut_bsd, Int.sub_zero , rd_at, Nat.zero_add]; with_reducible first | exact Eq.refl (bo true) | exact Eq.refl (bo false))))
    | ((with_reducible refine And.intro ?_ ?_); (focus (try omega)))
  all_goals try omega
  refine vLoop_s (fun s : Nat × List Int => [(.t 0, .t (sl (bs l))), (.t 5, .t (.p (.one (.sr 0)))), (.t 6, .t (i64 s.1)), (.row 0, .row 21 1 (rn s.2))]) (DecI l) (fun s => l.length - s.1) (0, []) (.init l) rfl ?_
  rintro ⟨a, acc⟩ hI
  have h1 : a ≤ l.length := hI.le
  have h2 : acc.length ≤ a := hI.len
  have hbd := nx_bd (hb.drop a)
  have hrg := fun h => nx_rng (l := l.drop a) h
  rw [List.length_drop] at hrg
  simp only [] at *
  repeat' first
    | ((first
        | ((with_reducible refine vR_cons (by decide) ?_); generalize hk : KtR _ _ _ _ _ _ _ _ _ _ = k)
        | ((first
        | with_reducible refine vOps_cons' ?_
        | ((with_reducible apply orc_i); (focus (exact at1_ok l hb (by omega) a (by omega); done)))) <;> generalize hk : Kt _ _ _ _ _ _ _ _ _ = k)) <;> (simp only [Try.f54, lv, E1, E2, E5, ET, T, orc_mv, noO_mv, mvB, orc_bx, noO_bx, bxB, fwd, fwds, inv, mOk, Int.toNat_natCast, Nat.div_one, Nat.mul_one, Int.reduceToNat, SB, List.not_mem_nil, ↓reduceIte, ne_eq, reduceCtorEq, Nat.reduceLT, Nat.reduceEqDiff, Nat.reduceAdd, Nat.reduceMul, Nat.reduceLeDiff, Nat.reduceDiv, Nat.reduceMod, Nat.reduceSub, Nat.reduceBEq, List.length_map, bs_len, rn_len, cut_bs, cut_bsd, Int.sub_zero , rd_at, Nat.zero_add]; (try simp (disch := omega) only [wrap_in, Int.toNat_natCast, tv_rn, tv_bs, tv_hd, w64b, cut_bs2]); subst hk))
    | with_reducible first | refine Kt_p ?_ | refine Kt_i (by kernel_rfl) ?_ | refine Kr_f (by kernel_rfl) ?_
    | (with_reducible refine Kr_t ?_; simp only [List.length_append, List.length_cons, List.length_nil, Nat.reduceAdd, Nat.reduceSub, List.drop_succ_cons, List.drop_zero])
    | with_reducible first | refine vR_nil ?_ | refine KtR_i (by kernel_rfl) ?_ | refine KrR_i (by kernel_rfl) ?_ | refine vR_skip (by decide) ?_
    | ((with_reducible refine vB_i ?_ ?_) <;> intro _ <;> (first | (exfalso; omega) | (exact absurd trivial ‹¬True›) | (try dsimp only [])))
    | ((with_reducible refine vOps_nil' ?_); refine Kr_i (by kernel_rfl) ?_; generalize hk : plain _ _ = G; simp only [lv, E3, E2, E5, rawX, deadX, SB, List.not_mem_nil, ↓reduceIte, ne_eq, reduceCtorEq, Nat.reduceLT, Nat.reduceEqDiff, Nat.reduceAdd, Nat.reduceMul, Nat.reduceLeDiff, Nat.reduceDiv, Nat.reduceMod, Nat.reduceSub, Nat.reduceBEq, List.length_map, bs_len, rn_len, cut_bs, cut_bsd, Int.sub_zero , rd_at, Nat.zero_add] at hk; subst hk)
    | with_reducible refine vSeq_i ?_
    | with_reducible first | refine vRegion_i (by kernel_rfl) ?_ | refine Kv_i ?_
    | ((with_reducible apply vStrK_i); (focus (rfl; done)))
    | ((with_reducible refine imp_i ?_); intro _)
    | with_reducible first | refine Ks_n ?_ | refine Ks_r ?_ | refine Ks_e ?_ | refine Kl_e ?_ | refine Kx_n ?_ | refine Kl_r ?_ | refine vRet_i ?_ | refine vSkip_i ?_ | refine vExit_i ?_ | refine vBlock_i ?_ | refine Ks_p ?_ | refine Kl_p ?_ | refine blk_p ?_ | exact Kb_p | refine vGoto_i ?_ | refine vLabel_i ?_ | refine Ks_g ?_ | refine Kl_g ?_ | refine blk_g ?_ | refine jmp_g ?_ | refine jmp_n ?_ | refine jmp_r ?_ | refine nog_n ?_ | refine nog_r ?_ | refine blk_n ?_ | refine blk_r ?_ | refine blk_e ?_ | refine blk_o (by decide) ?_ | refine cp_t ?_ | refine cp_f ?_
    | ((with_reducible apply vCond_x); (focus (simp only [lv, E1, E2, E5, ET, T, orc_mv, noO_mv, mvB, orc_bx, noO_bx, bxB, fwd, fwds, inv, mOk, Int.toNat_natCast, Nat.div_one, Nat.mul_one, Int.reduceToNat, SB, List.not_mem_nil, ↓reduceIte, ne_eq, reduceCtorEq, Nat.reduceLT, Nat.reduceEqDiff, Nat.reduceAdd, Nat.reduceMul, Nat.reduceLeDiff, Nat.reduceDiv, Nat.reduceMod, Nat.reduceSub, Nat.reduceBEq, List.length_map, bs_len, rn_len, cut_bs, cut_bsd, Int.sub_zero , rd_at, Nat.zero_add]; with_reducible first | exact Eq.refl (bo true) | exact Eq.refl (bo false))))
    | ((with_reducible refine And.intro ?_ ?_); (focus (try omega)))
  · rename_i k1 hz
    have e := hI.stop (by simp only []; omega) hz
    refine Kf_r ?_
    simp only [Try.f54, E4, E3, E2, E5, rawX, deadX, ET, T, SB, List.not_mem_nil, ↓reduceIte, ne_eq, reduceCtorEq, Nat.reduceLT, Nat.reduceEqDiff, Nat.reduceAdd, Nat.reduceMul, Nat.reduceLeDiff, Nat.reduceDiv, Nat.reduceMod, Nat.reduceSub, Nat.reduceBEq, List.length_map, bs_len, rn_len, cut_bs, cut_bsd, Int.sub_zero , rd_at, Nat.zero_add, decX, e, rn, List.map_nil]
  · rename_i k1 hz
    have hr := hrg hz
    refine Kl_n ⟨(a + (nx (l.drop a)).2.toNat, acc ++ [(nx (l.drop a)).1]), hI.next (by simp only []; omega) hz, by simp only []; omega, ?_⟩
    have e : ((a + (nx (l.drop a)).2.toNat : Nat) : Int) = (a : Int) + (nx (l.drop a)).2 := by omega
    simp only [e, rn, List.map_append, List.map_cons, List.map_nil]
  · have e := hI.last (by simp only []; omega)
    refine Kf_r ?_
    simp only [Try.f54, E4, E3, E2, E5, rawX, deadX, ET, T, SB, List.not_mem_nil, ↓reduceIte, ne_eq, reduceCtorEq, Nat.reduceLT, Nat.reduceEqDiff, Nat.reduceAdd, Nat.reduceMul, Nat.reduceLeDiff, Nat.reduceDiv, Nat.reduceMod, Nat.reduceSub, Nat.reduceBEq, List.length_map, bs_len, rn_len, cut_bs, cut_bsd, Int.sub_zero , rd_at, Nat.zero_add, decX, e]
end Go.Proofs.YtdpflafjfkooeaaG
/- G18: a function whose body ends in a scope with a label. -/
namespace Go.Proofs.YtdpflafjfkooeaaG
open Go Go.RowKit
set_option linter.unusedVariables false
set_option linter.unusedSimpArgs false
/-- A function whose body ends in a scope with one label. -/
theorem fn_okS2 {P : Program} {T : Tab} {O : Orc} (hT : Tok P T) (hO : OrcOk P O) (hm : P.follows .mixedOrders = true) {f : Nat} {fn : Func} {x c rest : Code} {l : Nat} (hf : P.funcs[f]? = some fn) (hb : fn.body = some (.seq x (.scope c))) (hl : findLabel c l = some rest) (hcb : callableB fn = true) (vars : Nat → List Nat) (nt : Nat) (hnt : fn.ntmps = nt)
    {args : List X} {res : X} {rows : Rows} {fr : Bool} (hn : args.length ≤ nt) (hres : res.all TV.res = true) (hfr : fr = true → res.all TV.rawR = true ∧ ∀ r ∈ rows, ∀ x ∈ r.2.2, x.isRaw = true)
    (h : vCode T O nt vars x (argsG 0 args) (GEx.seq (fun G1 => vCode T O nt vars c G1 (GEx.jmp l (fun G' => vCode T O nt vars rest G' (GEx.nog (Kf T fn.results.toList res rows))) (Kf T fn.results.toList res rows))) (GEx.nog (Kf T fn.results.toList res rows)))) : CallOk P f args res rows fr := by
  subst hnt
  refine ⟨callable_of hf hcb, hres, hfr, fun w vs g hg hlt hall => ?_⟩
  refine callsIn_wide.1 (callsIn_of_wp_marks (F := Fence.wide) (n := 0) hf hb trivial ?_)
  have hvl : vs.length = args.length := hall.1
  have r0 : Rel (look (argsG 0 args)) fn.ntmps { tmps := vs.toArray ++ Array.replicate (fn.ntmps - vs.toArray.size) undef, defers := [] } w g := by
    refine ⟨by simp; omega, rfl, hlt, fun n => ?_⟩
    cases n with
    | t i =>
      rcases look_argsG_t (args := args) (k := 0) (i := i) with h1 | ⟨x, h1⟩
      · rw [h1]; trivial
      · rw [h1]
        obtain ⟨v, e1, _, e3⟩ := look_argsG hall x h1
        have hi : i < vs.length := (List.getElem?_eq_some_iff.1 e1).1
        have : (vs.toArray ++ Array.replicate (fn.ntmps - vs.toArray.size) undef).getD i undef = v := by
          simp only [Nat.sub_zero] at e1
          simp [Array.getD_eq_getD_getElem?, Array.getElem?_append, hi]
          rw [List.getElem?_eq_getElem hi] at e1
          exact Option.some.inj e1
        show XR w g _ x
        rw [this]
        exact e3
    | row k => rw [look_argsG_other (by simp)]; trivial
    | box k => rw [look_argsG_other (by simp)]; trivial
  have env0 : Env w.heap.size none [] w g := ⟨Nat.le_refl _, fun l hl => by (cases hl), fun d hd => absurd hd (by simp), List.nodup_nil⟩
  have hend : ∀ (e : GEx) (G' : List (Nm × C)) (a' : Act) (w' : World) (g' : Gh) (ds' : List Deferred), (∀ l, e ≠ .goto l) → Kf T fn.results.toList res rows e G' → Rel (look G') fn.ntmps a' w' g' → Fr w w' g.o g'.o → Env w.heap.size none ds' w' g' →
      bodyPostM Fence.wide 0 P fn (fun e w' => ∃ v g', e = .returned v ∧ Fr w w' g.o g'.o ∧ (∀ b, g'.o b ≠ .other → b < w'.heap.size) ∧ XR w' g' v res ∧ ∀ k ty e xs, rows[k]? = some (ty, e, xs) → RowR w' g' k ty e xs) e.ex (shA ds' a') w' := fun e G' a' w' g' ds' hne hq r' f' env' => by
    obtain ⟨he, hv⟩ := hq
    have key := leaves_marks (P := P) (fn := fn) (R := fun e w' => ∃ v g', e = .returned v ∧ Fr w w' g.o g'.o ∧ (∀ b, g'.o b ≠ .other → b < w'.heap.size) ∧ XR w' g' v res ∧ ∀ k ty e xs, rows[k]? = some (ty, e, xs) → RowR w' g' k ty e xs) ds' r' f' env' fun w' g' r' f' => by
      unfold vRes at hv
      split at hv
      · rename_i x hx
        obtain ⟨hm1, hm2, hv⟩ := hv
        split at hv
        · rename_i rows' hrows
          obtain ⟨rfl, rfl⟩ := hv
          obtain ⟨v, h1, h2⟩ := resX_run hT r' hx
          refine ⟨v, h1, v, g'.ren (resM x), rfl, f'.trans (Fr.ren _ _ _), (r'.ren hm1).tags, ren_xr hm1 h2, fun k ty e xs hk => ?_⟩
          obtain ⟨hh, hmem, hrow⟩ := rowsAt_get hrows hm2 k ty e xs hk
          rw [Nat.zero_add] at hmem
          exact ren_rowr hm1 (fwd_mem hm1 hmem) (r'.row hrow)
        · exact hv.elim
      · exact hv.elim
    rcases he with rfl | rfl
    · exact key
    · exact key
  refine wpIn_seq (vCode_ok hT hO hm x h (ro := none) (ds := []) r0 (Fr.refl _ _) env0 fun e G' a' w' g' ds' hq r' f' env' _ => ?_)
  cases e with
  | normal => exact scope_wp hT hO hm hl hq r' f' env' hend
  | goto l' => exact hq.elim
  | exit id => exact hend (.exit id) G' a' w' g' ds' (by simp) hq r' f' env'
  | ret => exact hend .ret G' a' w' g' ds' (by simp) hq r' f' env'
  | panic v => exact hend (.panic v) G' a' w' g' ds' (by simp) hq r' f' env'
end Go.Proofs.YtdpflafjfkooeaaG
