/- YtdpflafjfkooeaaDoorZ21: a part of the proof, joined of its texts. -/
import Derived.Test.YtdpflafjfkooeaaDoorZ20
namespace Go.Proofs.YtdpflafjfkooeaaDoorG
open Go Go.RowKit Go.Proofs Go.Proofs.YtdpflafjfkooeaaDoorG.Dec
set_option linter.unusedSimpArgs false
set_option linter.unusedVariables false
theorem tv_bst {l : List Int} {n j : Nat} (h : j < n) (h2 : j < l.length) : (List.map TV.v (bs (List.take n l))).getD j .dead = .v (.raw (.int .u8 (rd l j))) := by
  rw [tv_bs (by simp only [List.length_take]; omega)]
  simp [rd, List.getD, List.getElem?_take, h]
theorem orc_bj {P : Program} {f bs args K} {c : Prop} {inst : Decidable c} {o1 o2 : Out} (h : CallB P f bs args (if c then o1 else o2)) (h1 : c → K o1) (h2 : ¬ c → K o2) : (orc P).b f bs args K := orc_bi h h1 h2
/-- What a reading comes to. -/
inductive RR (α : Type) where
  | ok (a : α) (rest : List Int)
  | bad (e : Int)
abbrev rbox (xs : List Int) : Boxes := [(121, rdr xs)]
def outR {α : Type} (r : RR α) (g : α → X) : Out := match r with
  | .ok a rest => .ret (g a) (rbox rest)
  | .bad e => .pan (errno e)
theorem orc_br {P : Program} {f bs args K} {α : Type} {r : RR α} {g : α → X} (h : CallB P f bs args (outR r g)) (h1 : ∀ a rest, r = .ok a rest → K (.ret (g a) (rbox rest))) (h2 : ∀ e, r = .bad e → K (.pan (errno e))) : (orc P).b f bs args K := by
  refine ⟨_, h, ?_⟩
  cases r with
  | ok a rest => exact h1 a rest rfl
  | bad e => exact h2 e rfl
def numR (xs : List Int) : Int := rd xs 0 * 16777216 + rd xs 1 * 65536 + rd xs 2 * 256 + rd xs 3
def readNum (xs : List Int) : RR Int := if 4 ≤ xs.length then (if numR xs > 2147483647 then .bad 50 else .ok (numR xs) (xs.drop 4)) else .bad 20
theorem num_or {a b c d : Int} (ha : 0 ≤ a ∧ a ≤ 255) (hb : 0 ≤ b ∧ b ≤ 255) (hc : 0 ≤ c ∧ c ≤ 255) (hd : 0 ≤ d ∧ d ≤ 255) :
    bitI .or .i64 (bitI .or .i64 (bitI .or .i64 (IntKind.i64.wrap (IntKind.i64.wrap a * 2 ^ min 24 IntKind.i64.bits)) (IntKind.i64.wrap (IntKind.i64.wrap b * 2 ^ min 16 IntKind.i64.bits))) (IntKind.i64.wrap (IntKind.i64.wrap c * 2 ^ min 8 IntKind.i64.bits))) (IntKind.i64.wrap d) = a * 16777216 + b * 65536 + c * 256 + d := by
  have e1 : (2 : Int) ^ min 24 IntKind.i64.bits = 2 ^ 24 := rfl
  have e2 : (2 : Int) ^ min 16 IntKind.i64.bits = 2 ^ 16 := rfl
  have e3 : (2 : Int) ^ min 8 IntKind.i64.bits = 2 ^ 8 := rfl
  rw [e1, e2, e3, wrap_in (n := a) (by omega) (by omega), wrap_in (n := b) (by omega) (by omega), wrap_in (n := c) (by omega) (by omega), wrap_in (n := d) (by omega) (by omega),
    wrap_in (n := a * 2 ^ 24) (by omega) (by omega), wrap_in (n := b * 2 ^ 16) (by omega) (by omega), wrap_in (n := c * 2 ^ 8) (by omega) (by omega)]
  rw [or_add (k := 24) ha.1 (by omega) (by omega) (by omega)]
  rw [show a * 2 ^ 24 + b * 2 ^ 16 = (a * 2 ^ 8 + b) * 2 ^ 16 by omega, or_add (k := 16) (by omega) (by omega) (by omega) (by omega)]
  rw [show (a * 2 ^ 8 + b) * 2 ^ 16 + c * 2 ^ 8 = ((a * 2 ^ 8 + b) * 2 ^ 8 + c) * 2 ^ 8 by omega, or_add (k := 8) (by omega) hd.1 (by omega) (by omega)]
  omega
theorem rk {xs : List Int} (hl : xs.length ≤ 140000000000000) (n : Int) (h0 : 0 ≤ n) : CallB Tryd.prog 81 [(121, rdr xs)] [r0, i64 n] (if n ≤ xs.length then .ret (sl (bs (xs.take n.toNat))) [(121, rdr (xs.drop n.toNat))] else .pan (errno 20)) := take_ok xs n h0 hl
set_option maxRecDepth 10000 in
set_option maxHeartbeats 4000000 in
theorem rnum_ok (xs : List Int) (hb : Bytes xs) (hl : xs.length ≤ 140000000000000) : CallB Tryd.prog 69 [(121, rdr xs)] [r0] (outR (readNum xs) i64) := by
  have b0 := rd_bd hb 0
  have b1 := rd_bd hb 1
  have b2 := rd_bd hb 2
  have b3 := rd_bd hb 3
  have hn := num_or (a := rd xs ((0 : Nat) : Int)) (b := rd xs ((1 : Nat) : Int)) (c := rd xs ((2 : Nat) : Int)) (d := rd xs ((3 : Nat) : Int)) b0 b1 b2 b3
  rw [show rd xs ((0 : Nat) : Int) * 16777216 + rd xs ((1 : Nat) : Int) * 65536 + rd xs ((2 : Nat) : Int) * 256 + rd xs ((3 : Nat) : Int) = numR xs from rfl] at hn
  by_cases h : 4 ≤ xs.length
  · have e : readNum xs = if numR xs > 2147483647 then .bad 50 else .ok (numR xs) (xs.drop 4) := if_pos h
    by_cases h2 : numR xs > 2147483647
    · rw [e, if_pos h2]
      show CallB _ _ _ _ (.pan (errno 50))
      refine fn_okB' T_ok (orc_ok _) mixed Tryd.func69 rfl (by kernel_rfl) (lv [[0], [0, 3], [0, 4], [0, 4, 30], [0, 4], [0, 2]]) 33 rfl (by simp) trivial ?_
      simp only [lentL, argsG, Nat.zero_add, Nat.reduceAdd, List.cons_append, List.nil_append]
      repeat' first
        | ((first
            | ((with_reducible refine vR_cons (by decide) ?_); generalize hk : KtR _ _ _ _ _ _ _ _ _ _ = k)
            | ((first
            | with_reducible refine vOps_cons' ?_
            | ((with_reducible apply orc_bj); (focus (exact rk hl 4 (by omega); done)); (all_goals intro hb))) <;> generalize hk : Kt _ _ _ _ _ _ _ _ _ = k)) <;> (simp only [Tryd.f69, lv, E1, E2, E5, ET, T, orc_mv, noO_mv, mvB, orc_bx, noO_bx, bxB, orc_sx, noO_sx, sxB, fwd, fwds, inv, mOk, Int.toNat_natCast, Nat.div_one, Nat.mul_one, Int.reduceToNat, SB, List.not_mem_nil, ↓reduceIte, ne_eq, reduceCtorEq, Nat.reduceLT, Nat.reduceEqDiff, Nat.reduceAdd, Nat.reduceMul, Nat.reduceLeDiff, Nat.reduceDiv, Nat.reduceMod, Nat.reduceSub, Nat.reduceBEq, List.length_map, List.length_take, bs_len, rn_len, cut_bs, cut_bsd, Int.sub_zero, Int.toNat_natCast, Int.reduceToNat]; (try simp (disch := omega) only [wrap_in, Int.toNat_natCast, tv_rn, tv_bst]); subst hk))
        | with_reducible first | refine Kt_p ?_ | refine Kt_i (by kernel_rfl) ?_ | refine Kr_f (by kernel_rfl) ?_
        | (with_reducible refine Kr_t ?_; simp only [List.length_append, List.length_cons, List.length_nil, Nat.reduceAdd, Nat.reduceSub, List.drop_succ_cons, List.drop_zero])
        | with_reducible first | refine vR_nil ?_ | refine KtR_i (by kernel_rfl) ?_ | refine KrR_i (by kernel_rfl) ?_ | refine vR_skip (by decide) ?_
        | ((with_reducible refine vB_i ?_ ?_) <;> intro _ <;> (first | (exfalso; omega) | (exact absurd trivial ‹¬True›) | (try dsimp only [])))
        | ((with_reducible refine vOps_nil' ?_); refine Kr_i (by kernel_rfl) ?_; generalize hk : plain _ _ = G; simp only [lv, E3, E2, E5, rawX, deadX, SB, List.not_mem_nil, ↓reduceIte, ne_eq, reduceCtorEq, Nat.reduceLT, Nat.reduceEqDiff, Nat.reduceAdd, Nat.reduceMul, Nat.reduceLeDiff, Nat.reduceDiv, Nat.reduceMod, Nat.reduceSub, Nat.reduceBEq, List.length_map, List.length_take, bs_len, rn_len, cut_bs, cut_bsd, Int.sub_zero, Int.toNat_natCast, Int.reduceToNat] at hk; subst hk)
        | with_reducible refine vSeq_i ?_
        | with_reducible first | refine vRegion_i (by kernel_rfl) ?_ | refine Kv_i ?_
        | ((with_reducible apply vStrK_i); (focus (rfl; done)))
        | ((with_reducible refine imp_i ?_); intro _)
        | with_reducible first | refine Ks_n ?_ | refine Ks_r ?_ | refine Ks_e ?_ | refine Kl_e ?_ | refine Kx_n ?_ | refine Kl_r ?_ | refine vRet_i ?_ | refine vSkip_i ?_ | refine vExit_i ?_ | refine vBlock_i ?_ | refine Ks_p ?_ | refine Kl_p ?_ | refine blk_p ?_ | exact Kb_p | refine vGoto_i ?_ | refine vLabel_i ?_ | refine Ks_g ?_ | refine Kl_g ?_ | refine blk_g ?_ | refine jmp_g ?_ | refine jmp_n ?_ | refine jmp_r ?_ | refine nog_n ?_ | refine nog_r ?_ | refine blk_n ?_ | refine blk_r ?_ | refine blk_e ?_ | refine blk_o (by decide) ?_ | refine cp_t ?_ | refine cp_f ?_
        | ((with_reducible apply vCond_x); (focus (simp only [lv, E1, E2, E5, ET, T, orc_mv, noO_mv, mvB, orc_bx, noO_bx, bxB, orc_sx, noO_sx, sxB, fwd, fwds, inv, mOk, Int.toNat_natCast, Nat.div_one, Nat.mul_one, Int.reduceToNat, SB, List.not_mem_nil, ↓reduceIte, ne_eq, reduceCtorEq, Nat.reduceLT, Nat.reduceEqDiff, Nat.reduceAdd, Nat.reduceMul, Nat.reduceLeDiff, Nat.reduceDiv, Nat.reduceMod, Nat.reduceSub, Nat.reduceBEq, List.length_map, List.length_take, bs_len, rn_len, cut_bs, cut_bsd, Int.sub_zero, Int.toNat_natCast, Int.reduceToNat]; with_reducible first | exact Eq.refl (bo true) | exact Eq.refl (bo false))))
        | ((with_reducible refine And.intro ?_ ?_); (focus (try omega)))
      all_goals omega
    · rw [e, if_neg h2]
      show CallB _ _ _ _ (.ret (i64 (numR xs)) (rbox (xs.drop 4)))
      refine fn_okB' T_ok (orc_ok _) mixed Tryd.func69 rfl (by kernel_rfl) (lv [[0], [0, 3], [0, 4], [0, 4, 30], [0, 4], [0, 2]]) 33 rfl (by simp) (by simp [outR, Out.ok, X.all, PX.all, TV.isV, TV.lent]) ?_
      simp only [lentL, argsG, Nat.zero_add, Nat.reduceAdd, List.cons_append, List.nil_append]
      repeat' first
        | ((first
            | ((with_reducible refine vR_cons (by decide) ?_); generalize hk : KtR _ _ _ _ _ _ _ _ _ _ = k)
            | ((first
            | with_reducible refine vOps_cons' ?_
            | ((with_reducible apply orc_bj); (focus (exact rk hl 4 (by omega); done)); (all_goals intro hb))) <;> generalize hk : Kt _ _ _ _ _ _ _ _ _ = k)) <;> (simp only [Tryd.f69, lv, E1, E2, E5, ET, T, orc_mv, noO_mv, mvB, orc_bx, noO_bx, bxB, orc_sx, noO_sx, sxB, fwd, fwds, inv, mOk, Int.toNat_natCast, Nat.div_one, Nat.mul_one, Int.reduceToNat, SB, List.not_mem_nil, ↓reduceIte, ne_eq, reduceCtorEq, Nat.reduceLT, Nat.reduceEqDiff, Nat.reduceAdd, Nat.reduceMul, Nat.reduceLeDiff, Nat.reduceDiv, Nat.reduceMod, Nat.reduceSub, Nat.reduceBEq, List.length_map, List.length_take, bs_len, rn_len, cut_bs, cut_bsd, Int.sub_zero, Int.toNat_natCast, Int.reduceToNat]; (try simp (disch := omega) only [wrap_in, Int.toNat_natCast, tv_rn, tv_bst]); subst hk))
        | with_reducible first | refine Kt_p ?_ | refine Kt_i (by kernel_rfl) ?_ | refine Kr_f (by kernel_rfl) ?_
        | (with_reducible refine Kr_t ?_; simp only [List.length_append, List.length_cons, List.length_nil, Nat.reduceAdd, Nat.reduceSub, List.drop_succ_cons, List.drop_zero])
        | with_reducible first | refine vR_nil ?_ | refine KtR_i (by kernel_rfl) ?_ | refine KrR_i (by kernel_rfl) ?_ | refine vR_skip (by decide) ?_
        | ((with_reducible refine vB_i ?_ ?_) <;> intro _ <;> (first | (exfalso; omega) | (exact absurd trivial ‹¬True›) | (try dsimp only [])))
        | ((with_reducible refine vOps_nil' ?_); refine Kr_i (by kernel_rfl) ?_; generalize hk : plain _ _ = G; simp only [lv, E3, E2, E5, rawX, deadX, SB, List.not_mem_nil, ↓reduceIte, ne_eq, reduceCtorEq, Nat.reduceLT, Nat.reduceEqDiff, Nat.reduceAdd, Nat.reduceMul, Nat.reduceLeDiff, Nat.reduceDiv, Nat.reduceMod, Nat.reduceSub, Nat.reduceBEq, List.length_map, List.length_take, bs_len, rn_len, cut_bs, cut_bsd, Int.sub_zero, Int.toNat_natCast, Int.reduceToNat] at hk; subst hk)
        | with_reducible refine vSeq_i ?_
        | with_reducible first | refine vRegion_i (by kernel_rfl) ?_ | refine Kv_i ?_
        | ((with_reducible apply vStrK_i); (focus (rfl; done)))
        | ((with_reducible refine imp_i ?_); intro _)
        | with_reducible first | refine Ks_n ?_ | refine Ks_r ?_ | refine Ks_e ?_ | refine Kl_e ?_ | refine Kx_n ?_ | refine Kl_r ?_ | refine vRet_i ?_ | refine vSkip_i ?_ | refine vExit_i ?_ | refine vBlock_i ?_ | refine Ks_p ?_ | refine Kl_p ?_ | refine blk_p ?_ | exact Kb_p | refine vGoto_i ?_ | refine vLabel_i ?_ | refine Ks_g ?_ | refine Kl_g ?_ | refine blk_g ?_ | refine jmp_g ?_ | refine jmp_n ?_ | refine jmp_r ?_ | refine nog_n ?_ | refine nog_r ?_ | refine blk_n ?_ | refine blk_r ?_ | refine blk_e ?_ | refine blk_o (by decide) ?_ | refine cp_t ?_ | refine cp_f ?_
        | ((with_reducible apply vCond_x); (focus (simp only [lv, E1, E2, E5, ET, T, orc_mv, noO_mv, mvB, orc_bx, noO_bx, bxB, orc_sx, noO_sx, sxB, fwd, fwds, inv, mOk, Int.toNat_natCast, Nat.div_one, Nat.mul_one, Int.reduceToNat, SB, List.not_mem_nil, ↓reduceIte, ne_eq, reduceCtorEq, Nat.reduceLT, Nat.reduceEqDiff, Nat.reduceAdd, Nat.reduceMul, Nat.reduceLeDiff, Nat.reduceDiv, Nat.reduceMod, Nat.reduceSub, Nat.reduceBEq, List.length_map, List.length_take, bs_len, rn_len, cut_bs, cut_bsd, Int.sub_zero, Int.toNat_natCast, Int.reduceToNat]; with_reducible first | exact Eq.refl (bo true) | exact Eq.refl (bo false))))
        | ((with_reducible refine And.intro ?_ ?_); (focus (try omega)))
      all_goals first | (exfalso; omega) | skip
      rw [hn]
      first | refine Kb_r ?_ | refine Kb_n ?_
      simp only [Tryd.f69, E4, E3, E2, E5, rawX, deadX, ET, T, SB, List.not_mem_nil, ↓reduceIte, ne_eq, reduceCtorEq, Nat.reduceLT, Nat.reduceEqDiff, Nat.reduceAdd, Nat.reduceMul, Nat.reduceLeDiff, Nat.reduceDiv, Nat.reduceMod, Nat.reduceSub, Nat.reduceBEq, List.length_map, List.length_take, bs_len, rn_len, cut_bs, cut_bsd, Int.sub_zero, Int.toNat_natCast, Int.reduceToNat]
      generalize hW : List.contains (wrs _) 0 = b
      obtain rfl : b = false := hW.symm.trans (by kernel_rfl)
      simp only [E4, E3, E2, E5, rawX, deadX, ET, T, SB, List.not_mem_nil, ↓reduceIte, ne_eq, reduceCtorEq, Nat.reduceLT, Nat.reduceEqDiff, Nat.reduceAdd, Nat.reduceMul, Nat.reduceLeDiff, Nat.reduceDiv, Nat.reduceMod, Nat.reduceSub, Nat.reduceBEq, List.length_map, List.length_take, bs_len, rn_len, cut_bs, cut_bsd, Int.sub_zero, Int.toNat_natCast, Int.reduceToNat]
  · rw [show readNum xs = .bad 20 from if_neg h]
    show CallB _ _ _ _ (.pan (errno 20))
    refine fn_okB' T_ok (orc_ok _) mixed Tryd.func69 rfl (by kernel_rfl) (lv [[0], [0, 3], [0, 4], [0, 4, 30], [0, 4], [0, 2]]) 33 rfl (by simp) trivial ?_
    simp only [lentL, argsG, Nat.zero_add, Nat.reduceAdd, List.cons_append, List.nil_append]
    repeat' first
      | ((first
          | ((with_reducible refine vR_cons (by decide) ?_); generalize hk : KtR _ _ _ _ _ _ _ _ _ _ = k)
          | ((first
          | with_reducible refine vOps_cons' ?_
          | ((with_reducible apply orc_bj); (focus (exact rk hl 4 (by omega); done)); (all_goals intro hb))) <;> generalize hk : Kt _ _ _ _ _ _ _ _ _ = k)) <;> (simp only [Tryd.f69, lv, E1, E2, E5, ET, T, orc_mv, noO_mv, mvB, orc_bx, noO_bx, bxB, orc_sx, noO_sx, sxB, fwd, fwds, inv, mOk, Int.toNat_natCast, Nat.div_one, Nat.mul_one, Int.reduceToNat, SB, List.not_mem_nil, ↓reduceIte, ne_eq, reduceCtorEq, Nat.reduceLT, Nat.reduceEqDiff, Nat.reduceAdd, Nat.reduceMul, Nat.reduceLeDiff, Nat.reduceDiv, Nat.reduceMod, Nat.reduceSub, Nat.reduceBEq, List.length_map, List.length_take, bs_len, rn_len, cut_bs, cut_bsd, Int.sub_zero, Int.toNat_natCast, Int.reduceToNat]; (try simp (disch := omega) only [wrap_in, Int.toNat_natCast, tv_rn, tv_bst]); subst hk))
      | with_reducible first | refine Kt_p ?_ | refine Kt_i (by kernel_rfl) ?_ | refine Kr_f (by kernel_rfl) ?_
      | (with_reducible refine Kr_t ?_; simp only [List.length_append, List.length_cons, List.length_nil, Nat.reduceAdd, Nat.reduceSub, List.drop_succ_cons, List.drop_zero])
      | with_reducible first | refine vR_nil ?_ | refine KtR_i (by kernel_rfl) ?_ | refine KrR_i (by kernel_rfl) ?_ | refine vR_skip (by decide) ?_
      | ((with_reducible refine vB_i ?_ ?_) <;> intro _ <;> (first | (exfalso; omega) | (exact absurd trivial ‹¬True›) | (try dsimp only [])))
      | ((with_reducible refine vOps_nil' ?_); refine Kr_i (by kernel_rfl) ?_; generalize hk : plain _ _ = G; simp only [lv, E3, E2, E5, rawX, deadX, SB, List.not_mem_nil, ↓reduceIte, ne_eq, reduceCtorEq, Nat.reduceLT, Nat.reduceEqDiff, Nat.reduceAdd, Nat.reduceMul, Nat.reduceLeDiff, Nat.reduceDiv, Nat.reduceMod, Nat.reduceSub, Nat.reduceBEq, List.length_map, List.length_take, bs_len, rn_len, cut_bs, cut_bsd, Int.sub_zero, Int.toNat_natCast, Int.reduceToNat] at hk; subst hk)
      | with_reducible refine vSeq_i ?_
      | with_reducible first | refine vRegion_i (by kernel_rfl) ?_ | refine Kv_i ?_
      | ((with_reducible apply vStrK_i); (focus (rfl; done)))
      | ((with_reducible refine imp_i ?_); intro _)
      | with_reducible first | refine Ks_n ?_ | refine Ks_r ?_ | refine Ks_e ?_ | refine Kl_e ?_ | refine Kx_n ?_ | refine Kl_r ?_ | refine vRet_i ?_ | refine vSkip_i ?_ | refine vExit_i ?_ | refine vBlock_i ?_ | refine Ks_p ?_ | refine Kl_p ?_ | refine blk_p ?_ | exact Kb_p | refine vGoto_i ?_ | refine vLabel_i ?_ | refine Ks_g ?_ | refine Kl_g ?_ | refine blk_g ?_ | refine jmp_g ?_ | refine jmp_n ?_ | refine jmp_r ?_ | refine nog_n ?_ | refine nog_r ?_ | refine blk_n ?_ | refine blk_r ?_ | refine blk_e ?_ | refine blk_o (by decide) ?_ | refine cp_t ?_ | refine cp_f ?_
      | ((with_reducible apply vCond_x); (focus (simp only [lv, E1, E2, E5, ET, T, orc_mv, noO_mv, mvB, orc_bx, noO_bx, bxB, orc_sx, noO_sx, sxB, fwd, fwds, inv, mOk, Int.toNat_natCast, Nat.div_one, Nat.mul_one, Int.reduceToNat, SB, List.not_mem_nil, ↓reduceIte, ne_eq, reduceCtorEq, Nat.reduceLT, Nat.reduceEqDiff, Nat.reduceAdd, Nat.reduceMul, Nat.reduceLeDiff, Nat.reduceDiv, Nat.reduceMod, Nat.reduceSub, Nat.reduceBEq, List.length_map, List.length_take, bs_len, rn_len, cut_bs, cut_bsd, Int.sub_zero, Int.toNat_natCast, Int.reduceToNat]; with_reducible first | exact Eq.refl (bo true) | exact Eq.refl (bo false))))
      | ((with_reducible refine And.intro ?_ ?_); (focus (try omega)))
    all_goals omega
/-- Some bytes as a text. -/
def readText (n : Int) (xs : List Int) : RR (List Int) := if n ≤ xs.length then (if (dec (xs.take n.toNat)).2.2 = 0 then .ok (dec (xs.take n.toNat)).1 (xs.drop n.toNat) else .bad (dec (xs.take n.toNat)).2.2) else .bad 20
def readEnd (xs : List Int) : RR Unit := if xs = [] then .ok () xs else .bad 50
abbrev slr (l : List Int) : X := sl (rn l)
set_option maxRecDepth 10000 in
set_option maxHeartbeats 4000000 in
theorem rtext_ok (xs : List Int) (hb : Bytes xs) (hl : xs.length ≤ 30000000000000) (n : Int) (h0 : 0 ≤ n) : CallB Tryd.prog 70 [(121, rdr xs)] [r0, i64 n] (outR (readText n xs) slr) := by
  have hb' : Bytes (xs.take n.toNat) := hb.take _
  have hl' : (xs.take n.toNat).length ≤ 30000000000000 := by rw [List.length_take]; omega
  by_cases h : n ≤ xs.length
  · by_cases h2 : (dec (xs.take n.toNat)).2.2 = 0
    · rw [show readText n xs = .ok (dec (xs.take n.toNat)).1 (xs.drop n.toNat) by rw [readText, if_pos h, if_pos h2]]
      show CallB _ _ _ _ (.ret (sl (rn (dec (xs.take n.toNat)).1)) (rbox (xs.drop n.toNat)))
      refine fn_okB' T_ok (orc_ok _) mixed Tryd.func70 rfl (by kernel_rfl) (lv [[0, 1], [0, 5, 7], [0, 5, 7, 17], [0, 5], [0, 4]]) 21 rfl (by simp) (by simp [outR, Out.ok, X.all, PX.all, TV.isV, TV.lent]) ?_
      simp only [lentL, argsG, Nat.zero_add, Nat.reduceAdd, List.cons_append, List.nil_append]
      repeat' first
        | ((first
            | ((with_reducible refine vR_cons (by decide) ?_); generalize hk : KtR _ _ _ _ _ _ _ _ _ _ = k)
            | ((first
            | with_reducible refine vOps_cons' ?_
            | ((with_reducible apply orc_bj); (focus (exact rk (by omega) n h0; done)); (all_goals intro hb))
            | ((with_reducible apply orc_i); (focus (exact decode_ok _ hb' hl'; done)))) <;> generalize hk : Kt _ _ _ _ _ _ _ _ _ = k)) <;> (simp only [Tryd.f70, lv, E1, E2, E5, ET, T, orc_mv, noO_mv, mvB, orc_bx, noO_bx, bxB, orc_sx, noO_sx, sxB, fwd, fwds, inv, mOk, Int.toNat_natCast, Nat.div_one, Nat.mul_one, Int.reduceToNat, SB, List.not_mem_nil, ↓reduceIte, ne_eq, reduceCtorEq, Nat.reduceLT, Nat.reduceEqDiff, Nat.reduceAdd, Nat.reduceMul, Nat.reduceLeDiff, Nat.reduceDiv, Nat.reduceMod, Nat.reduceSub, Nat.reduceBEq, List.length_map, List.length_take, bs_len, rn_len, cut_bs, cut_bsd, Int.sub_zero, Int.toNat_natCast, Int.reduceToNat]; (try simp (disch := omega) only [wrap_in, Int.toNat_natCast, tv_rn, tv_bst]); subst hk))
        | with_reducible first | refine Kt_p ?_ | refine Kt_i (by kernel_rfl) ?_ | refine Kr_f (by kernel_rfl) ?_
        | (with_reducible refine Kr_t ?_; simp only [List.length_append, List.length_cons, List.length_nil, Nat.reduceAdd, Nat.reduceSub, List.drop_succ_cons, List.drop_zero])
        | with_reducible first | refine vR_nil ?_ | refine KtR_i (by kernel_rfl) ?_ | refine KrR_i (by kernel_rfl) ?_ | refine vR_skip (by decide) ?_
        | ((with_reducible refine vB_i ?_ ?_) <;> intro _ <;> (first | (exfalso; omega) | (exact absurd trivial ‹¬True›) | (try dsimp only [])))
        | ((with_reducible refine vOps_nil' ?_); refine Kr_i (by kernel_rfl) ?_; generalize hk : plain _ _ = G; simp only [lv, E3, E2, E5, rawX, deadX, SB, List.not_mem_nil, ↓reduceIte, ne_eq, reduceCtorEq, Nat.reduceLT, Nat.reduceEqDiff, Nat.reduceAdd, Nat.reduceMul, Nat.reduceLeDiff, Nat.reduceDiv, Nat.reduceMod, Nat.reduceSub, Nat.reduceBEq, List.length_map, List.length_take, bs_len, rn_len, cut_bs, cut_bsd, Int.sub_zero, Int.toNat_natCast, Int.reduceToNat] at hk; subst hk)
        | with_reducible refine vSeq_i ?_
        | with_reducible first | refine vRegion_i (by kernel_rfl) ?_ | refine Kv_i ?_
        | ((with_reducible apply vStrK_i); (focus (rfl; done)))
        | ((with_reducible refine imp_i ?_); intro _)
        | with_reducible first | refine Ks_n ?_ | refine Ks_r ?_ | refine Ks_e ?_ | refine Kl_e ?_ | refine Kx_n ?_ | refine Kl_r ?_ | refine vRet_i ?_ | refine vSkip_i ?_ | refine vExit_i ?_ | refine vBlock_i ?_ | refine Ks_p ?_ | refine Kl_p ?_ | refine blk_p ?_ | exact Kb_p | refine vGoto_i ?_ | refine vLabel_i ?_ | refine Ks_g ?_ | refine Kl_g ?_ | refine blk_g ?_ | refine jmp_g ?_ | refine jmp_n ?_ | refine jmp_r ?_ | refine nog_n ?_ | refine nog_r ?_ | refine blk_n ?_ | refine blk_r ?_ | refine blk_e ?_ | refine blk_o (by decide) ?_ | refine cp_t ?_ | refine cp_f ?_
        | ((with_reducible apply vCond_x); (focus (simp only [lv, E1, E2, E5, ET, T, orc_mv, noO_mv, mvB, orc_bx, noO_bx, bxB, orc_sx, noO_sx, sxB, fwd, fwds, inv, mOk, Int.toNat_natCast, Nat.div_one, Nat.mul_one, Int.reduceToNat, SB, List.not_mem_nil, ↓reduceIte, ne_eq, reduceCtorEq, Nat.reduceLT, Nat.reduceEqDiff, Nat.reduceAdd, Nat.reduceMul, Nat.reduceLeDiff, Nat.reduceDiv, Nat.reduceMod, Nat.reduceSub, Nat.reduceBEq, List.length_map, List.length_take, bs_len, rn_len, cut_bs, cut_bsd, Int.sub_zero, Int.toNat_natCast, Int.reduceToNat]; with_reducible first | exact Eq.refl (bo true) | exact Eq.refl (bo false))))
        | ((with_reducible refine And.intro ?_ ?_); (focus (try omega)))
      all_goals first | (exfalso; omega) | skip
      first | refine Kb_r ?_ | refine Kb_n ?_
      simp only [Tryd.f70, E4, E3, E2, E5, rawX, deadX, ET, T, SB, List.not_mem_nil, ↓reduceIte, ne_eq, reduceCtorEq, Nat.reduceLT, Nat.reduceEqDiff, Nat.reduceAdd, Nat.reduceMul, Nat.reduceLeDiff, Nat.reduceDiv, Nat.reduceMod, Nat.reduceSub, Nat.reduceBEq, List.length_map, List.length_take, bs_len, rn_len, cut_bs, cut_bsd, Int.sub_zero, Int.toNat_natCast, Int.reduceToNat]
      generalize hW : List.contains (wrs _) 0 = b
      obtain rfl : b = false := hW.symm.trans (by kernel_rfl)
      simp only [E4, E3, E2, E5, rawX, deadX, ET, T, SB, List.not_mem_nil, ↓reduceIte, ne_eq, reduceCtorEq, Nat.reduceLT, Nat.reduceEqDiff, Nat.reduceAdd, Nat.reduceMul, Nat.reduceLeDiff, Nat.reduceDiv, Nat.reduceMod, Nat.reduceSub, Nat.reduceBEq, List.length_map, List.length_take, bs_len, rn_len, cut_bs, cut_bsd, Int.sub_zero, Int.toNat_natCast, Int.reduceToNat]
    · rw [show readText n xs = .bad (dec (xs.take n.toNat)).2.2 by rw [readText, if_pos h, if_neg h2]]
      show CallB _ _ _ _ (.pan (errno (dec (xs.take n.toNat)).2.2))
      refine fn_okB' T_ok (orc_ok _) mixed Tryd.func70 rfl (by kernel_rfl) (lv [[0, 1], [0, 5, 7], [0, 5, 7, 17], [0, 5], [0, 4]]) 21 rfl (by simp) trivial ?_
      simp only [lentL, argsG, Nat.zero_add, Nat.reduceAdd, List.cons_append, List.nil_append]
      repeat' first
        | ((first
            | ((with_reducible refine vR_cons (by decide) ?_); generalize hk : KtR _ _ _ _ _ _ _ _ _ _ = k)
            | ((first
            | with_reducible refine vOps_cons' ?_
            | ((with_reducible apply orc_bj); (focus (exact rk (by omega) n h0; done)); (all_goals intro hb))
            | ((with_reducible apply orc_i); (focus (exact decode_ok _ hb' hl'; done)))) <;> generalize hk : Kt _ _ _ _ _ _ _ _ _ = k)) <;> (simp only [Tryd.f70, lv, E1, E2, E5, ET, T, orc_mv, noO_mv, mvB, orc_bx, noO_bx, bxB, orc_sx, noO_sx, sxB, fwd, fwds, inv, mOk, Int.toNat_natCast, Nat.div_one, Nat.mul_one, Int.reduceToNat, SB, List.not_mem_nil, ↓reduceIte, ne_eq, reduceCtorEq, Nat.reduceLT, Nat.reduceEqDiff, Nat.reduceAdd, Nat.reduceMul, Nat.reduceLeDiff, Nat.reduceDiv, Nat.reduceMod, Nat.reduceSub, Nat.reduceBEq, List.length_map, List.length_take, bs_len, rn_len, cut_bs, cut_bsd, Int.sub_zero, Int.toNat_natCast, Int.reduceToNat]; (try simp (disch := omega) only [wrap_in, Int.toNat_natCast, tv_rn, tv_bst]); subst hk))
        | with_reducible first | refine Kt_p ?_ | refine Kt_i (by kernel_rfl) ?_ | refine Kr_f (by kernel_rfl) ?_
        | (with_reducible refine Kr_t ?_; simp only [List.length_append, List.length_cons, List.length_nil, Nat.reduceAdd, Nat.reduceSub, List.drop_succ_cons, List.drop_zero])
        | with_reducible first | refine vR_nil ?_ | refine KtR_i (by kernel_rfl) ?_ | refine KrR_i (by kernel_rfl) ?_ | refine vR_skip (by decide) ?_
        | ((with_reducible refine vB_i ?_ ?_) <;> intro _ <;> (first | (exfalso; omega) | (exact absurd trivial ‹¬True›) | (try dsimp only [])))
        | ((with_reducible refine vOps_nil' ?_); refine Kr_i (by kernel_rfl) ?_; generalize hk : plain _ _ = G; simp only [lv, E3, E2, E5, rawX, deadX, SB, List.not_mem_nil, ↓reduceIte, ne_eq, reduceCtorEq, Nat.reduceLT, Nat.reduceEqDiff, Nat.reduceAdd, Nat.reduceMul, Nat.reduceLeDiff, Nat.reduceDiv, Nat.reduceMod, Nat.reduceSub, Nat.reduceBEq, List.length_map, List.length_take, bs_len, rn_len, cut_bs, cut_bsd, Int.sub_zero, Int.toNat_natCast, Int.reduceToNat] at hk; subst hk)
        | with_reducible refine vSeq_i ?_
        | with_reducible first | refine vRegion_i (by kernel_rfl) ?_ | refine Kv_i ?_
        | ((with_reducible apply vStrK_i); (focus (rfl; done)))
        | ((with_reducible refine imp_i ?_); intro _)
        | with_reducible first | refine Ks_n ?_ | refine Ks_r ?_ | refine Ks_e ?_ | refine Kl_e ?_ | refine Kx_n ?_ | refine Kl_r ?_ | refine vRet_i ?_ | refine vSkip_i ?_ | refine vExit_i ?_ | refine vBlock_i ?_ | refine Ks_p ?_ | refine Kl_p ?_ | refine blk_p ?_ | exact Kb_p | refine vGoto_i ?_ | refine vLabel_i ?_ | refine Ks_g ?_ | refine Kl_g ?_ | refine blk_g ?_ | refine jmp_g ?_ | refine jmp_n ?_ | refine jmp_r ?_ | refine nog_n ?_ | refine nog_r ?_ | refine blk_n ?_ | refine blk_r ?_ | refine blk_e ?_ | refine blk_o (by decide) ?_ | refine cp_t ?_ | refine cp_f ?_
        | ((with_reducible apply vCond_x); (focus (simp only [lv, E1, E2, E5, ET, T, orc_mv, noO_mv, mvB, orc_bx, noO_bx, bxB, orc_sx, noO_sx, sxB, fwd, fwds, inv, mOk, Int.toNat_natCast, Nat.div_one, Nat.mul_one, Int.reduceToNat, SB, List.not_mem_nil, ↓reduceIte, ne_eq, reduceCtorEq, Nat.reduceLT, Nat.reduceEqDiff, Nat.reduceAdd, Nat.reduceMul, Nat.reduceLeDiff, Nat.reduceDiv, Nat.reduceMod, Nat.reduceSub, Nat.reduceBEq, List.length_map, List.length_take, bs_len, rn_len, cut_bs, cut_bsd, Int.sub_zero, Int.toNat_natCast, Int.reduceToNat]; with_reducible first | exact Eq.refl (bo true) | exact Eq.refl (bo false))))
        | ((with_reducible refine And.intro ?_ ?_); (focus (try omega)))
      all_goals omega
  · rw [show readText n xs = .bad 20 from if_neg h]
    show CallB _ _ _ _ (.pan (errno 20))
    refine fn_okB' T_ok (orc_ok _) mixed Tryd.func70 rfl (by kernel_rfl) (lv [[0, 1], [0, 5, 7], [0, 5, 7, 17], [0, 5], [0, 4]]) 21 rfl (by simp) trivial ?_
    simp only [lentL, argsG, Nat.zero_add, Nat.reduceAdd, List.cons_append, List.nil_append]
    repeat' first
      | ((first
          | ((with_reducible refine vR_cons (by decide) ?_); generalize hk : KtR _ _ _ _ _ _ _ _ _ _ = k)
          | ((first
          | with_reducible refine vOps_cons' ?_
          | ((with_reducible apply orc_bj); (focus (exact rk (by omega) n h0; done)); (all_goals intro hb))
          | ((with_reducible apply orc_i); (focus (exact decode_ok _ hb' hl'; done)))) <;> generalize hk : Kt _ _ _ _ _ _ _ _ _ = k)) <;> (simp only [Tryd.f70, lv, E1, E2, E5, ET, T, orc_mv, noO_mv, mvB, orc_bx, noO_bx, bxB, orc_sx, noO_sx, sxB, fwd, fwds, inv, mOk, Int.toNat_natCast, Nat.div_one, Nat.mul_one, Int.reduceToNat, SB, List.not_mem_nil, ↓reduceIte, ne_eq, reduceCtorEq, Nat.reduceLT, Nat.reduceEqDiff, Nat.reduceAdd, Nat.reduceMul, Nat.reduceLeDiff, Nat.reduceDiv, Nat.reduceMod, Nat.reduceSub, Nat.reduceBEq, List.length_map, List.length_take, bs_len, rn_len, cut_bs, cut_bsd, Int.sub_zero, Int.toNat_natCast, Int.reduceToNat]; (try simp (disch := omega) only [wrap_in, Int.toNat_natCast, tv_rn, tv_bst]); subst hk))
      | with_reducible first | refine Kt_p ?_ | refine Kt_i (by kernel_rfl) ?_ | refine Kr_f (by kernel_rfl) ?_
      | (with_reducible refine Kr_t ?_; simp only [List.length_append, List.length_cons, List.length_nil, Nat.reduceAdd, Nat.reduceSub, List.drop_succ_cons, List.drop_zero])
      | with_reducible first | refine vR_nil ?_ | refine KtR_i (by kernel_rfl) ?_ | refine KrR_i (by kernel_rfl) ?_ | refine vR_skip (by decide) ?_
      | ((with_reducible refine vB_i ?_ ?_) <;> intro _ <;> (first | (exfalso; omega) | (exact absurd trivial ‹¬True›) | (try dsimp only [])))
      | ((with_reducible refine vOps_nil' ?_); refine Kr_i (by kernel_rfl) ?_; generalize hk : plain _ _ = G; simp only [lv, E3, E2, E5, rawX, deadX, SB, List.not_mem_nil, ↓reduceIte, ne_eq, reduceCtorEq, Nat.reduceLT, Nat.reduceEqDiff, Nat.reduceAdd, Nat.reduceMul, Nat.reduceLeDiff, Nat.reduceDiv, Nat.reduceMod, Nat.reduceSub, Nat.reduceBEq, List.length_map, List.length_take, bs_len, rn_len, cut_bs, cut_bsd, Int.sub_zero, Int.toNat_natCast, Int.reduceToNat] at hk; subst hk)
      | with_reducible refine vSeq_i ?_
      | with_reducible first | refine vRegion_i (by kernel_rfl) ?_ | refine Kv_i ?_
      | ((with_reducible apply vStrK_i); (focus (rfl; done)))
      | ((with_reducible refine imp_i ?_); intro _)
      | with_reducible first | refine Ks_n ?_ | refine Ks_r ?_ | refine Ks_e ?_ | refine Kl_e ?_ | refine Kx_n ?_ | refine Kl_r ?_ | refine vRet_i ?_ | refine vSkip_i ?_ | refine vExit_i ?_ | refine vBlock_i ?_ | refine Ks_p ?_ | refine Kl_p ?_ | refine blk_p ?_ | exact Kb_p | refine vGoto_i ?_ | refine vLabel_i ?_ | refine Ks_g ?_ | refine Kl_g ?_ | refine blk_g ?_ | refine jmp_g ?_ | refine jmp_n ?_ | refine jmp_r ?_ | refine nog_n ?_ | refine nog_r ?_ | refine blk_n ?_ | refine blk_r ?_ | refine blk_e ?_ | refine blk_o (by decide) ?_ | refine cp_t ?_ | refine cp_f ?_
      | ((with_reducible apply vCond_x); (focus (simp only [lv, E1, E2, E5, ET, T, orc_mv, noO_mv, mvB, orc_bx, noO_bx, bxB, orc_sx, noO_sx, sxB, fwd, fwds, inv, mOk, Int.toNat_natCast, Nat.div_one, Nat.mul_one, Int.reduceToNat, SB, List.not_mem_nil, ↓reduceIte, ne_eq, reduceCtorEq, Nat.reduceLT, Nat.reduceEqDiff, Nat.reduceAdd, Nat.reduceMul, Nat.reduceLeDiff, Nat.reduceDiv, Nat.reduceMod, Nat.reduceSub, Nat.reduceBEq, List.length_map, List.length_take, bs_len, rn_len, cut_bs, cut_bsd, Int.sub_zero, Int.toNat_natCast, Int.reduceToNat]; with_reducible first | exact Eq.refl (bo true) | exact Eq.refl (bo false))))
      | ((with_reducible refine And.intro ?_ ?_); (focus (try omega)))
    all_goals omega
set_option maxRecDepth 10000 in
set_option maxHeartbeats 4000000 in
theorem rend_ok (xs : List Int) : CallB Tryd.prog 72 [(121, rdr xs)] [r0] (outR (readEnd xs) fun _ => .tup []) := by
  by_cases h : xs = []
  · rw [show readEnd xs = .ok () xs from if_pos h]
    show CallB _ _ _ _ (.ret (.tup []) (rbox xs))
    subst h
    refine fn_okB' T_ok (orc_ok _) mixed Tryd.func72 rfl (by kernel_rfl) (lv [[0, 7], [0]]) 9 rfl (by simp) (by simp [Out.ok, X.all, PX.all, TV.isV, TV.lent]) ?_
    simp only [lentL, argsG, Nat.zero_add, Nat.reduceAdd, List.cons_append, List.nil_append]
    repeat' first
      | ((first
          | ((with_reducible refine vR_cons (by decide) ?_); generalize hk : KtR _ _ _ _ _ _ _ _ _ _ = k)
          | ((first
          | with_reducible refine vOps_cons' ?_) <;> generalize hk : Kt _ _ _ _ _ _ _ _ _ = k)) <;> (simp only [Tryd.f72, lv, E1, E2, E5, ET, T, orc_mv, noO_mv, mvB, orc_bx, noO_bx, bxB, orc_sx, noO_sx, sxB, fwd, fwds, inv, mOk, Int.toNat_natCast, Nat.div_one, Nat.mul_one, Int.reduceToNat, SB, List.not_mem_nil, ↓reduceIte, ne_eq, reduceCtorEq, Nat.reduceLT, Nat.reduceEqDiff, Nat.reduceAdd, Nat.reduceMul, Nat.reduceLeDiff, Nat.reduceDiv, Nat.reduceMod, Nat.reduceSub, Nat.reduceBEq, List.length_map, List.length_take, bs_len, rn_len, cut_bs, cut_bsd, Int.sub_zero, Int.toNat_natCast, Int.reduceToNat]; (try simp (disch := omega) only [wrap_in, Int.toNat_natCast, tv_rn, tv_bst]); subst hk))
      | with_reducible first | refine Kt_p ?_ | refine Kt_i (by kernel_rfl) ?_ | refine Kr_f (by kernel_rfl) ?_
      | (with_reducible refine Kr_t ?_; simp only [List.length_append, List.length_cons, List.length_nil, Nat.reduceAdd, Nat.reduceSub, List.drop_succ_cons, List.drop_zero])
      | with_reducible first | refine vR_nil ?_ | refine KtR_i (by kernel_rfl) ?_ | refine KrR_i (by kernel_rfl) ?_ | refine vR_skip (by decide) ?_
      | ((with_reducible refine vB_i ?_ ?_) <;> intro _ <;> (first | (exfalso; omega) | (exact absurd trivial ‹¬True›) | (try dsimp only [])))
      | ((with_reducible refine vOps_nil' ?_); refine Kr_i (by kernel_rfl) ?_; generalize hk : plain _ _ = G; simp only [lv, E3, E2, E5, rawX, deadX, SB, List.not_mem_nil, ↓reduceIte, ne_eq, reduceCtorEq, Nat.reduceLT, Nat.reduceEqDiff, Nat.reduceAdd, Nat.reduceMul, Nat.reduceLeDiff, Nat.reduceDiv, Nat.reduceMod, Nat.reduceSub, Nat.reduceBEq, List.length_map, List.length_take, bs_len, rn_len, cut_bs, cut_bsd, Int.sub_zero, Int.toNat_natCast, Int.reduceToNat] at hk; subst hk)
      | with_reducible refine vSeq_i ?_
      | with_reducible first | refine vRegion_i (by kernel_rfl) ?_ | refine Kv_i ?_
      | ((with_reducible apply vStrK_i); (focus (rfl; done)))
      | ((with_reducible refine imp_i ?_); intro _)
      | with_reducible first | refine Ks_n ?_ | refine Ks_r ?_ | refine Ks_e ?_ | refine Kl_e ?_ | refine Kx_n ?_ | refine Kl_r ?_ | refine vRet_i ?_ | refine vSkip_i ?_ | refine vExit_i ?_ | refine vBlock_i ?_ | refine Ks_p ?_ | refine Kl_p ?_ | refine blk_p ?_ | exact Kb_p | refine vGoto_i ?_ | refine vLabel_i ?_ | refine Ks_g ?_ | refine Kl_g ?_ | refine blk_g ?_ | refine jmp_g ?_ | refine jmp_n ?_ | refine jmp_r ?_ | refine nog_n ?_ | refine nog_r ?_ | refine blk_n ?_ | refine blk_r ?_ | refine blk_e ?_ | refine blk_o (by decide) ?_ | refine cp_t ?_ | refine cp_f ?_
      | ((with_reducible apply vCond_x); (focus (simp only [lv, E1, E2, E5, ET, T, orc_mv, noO_mv, mvB, orc_bx, noO_bx, bxB, orc_sx, noO_sx, sxB, fwd, fwds, inv, mOk, Int.toNat_natCast, Nat.div_one, Nat.mul_one, Int.reduceToNat, SB, List.not_mem_nil, ↓reduceIte, ne_eq, reduceCtorEq, Nat.reduceLT, Nat.reduceEqDiff, Nat.reduceAdd, Nat.reduceMul, Nat.reduceLeDiff, Nat.reduceDiv, Nat.reduceMod, Nat.reduceSub, Nat.reduceBEq, List.length_map, List.length_take, bs_len, rn_len, cut_bs, cut_bsd, Int.sub_zero, Int.toNat_natCast, Int.reduceToNat]; with_reducible first | exact Eq.refl (bo true) | exact Eq.refl (bo false))))
      | ((with_reducible refine And.intro ?_ ?_); (focus (try omega)))
    all_goals trace_state
    first | refine Kb_r ?_ | refine Kb_n ?_
    simp only [Tryd.f72, E4, E3, E2, E5, rawX, deadX, ET, T, SB, List.not_mem_nil, ↓reduceIte, ne_eq, reduceCtorEq, Nat.reduceLT, Nat.reduceEqDiff, Nat.reduceAdd, Nat.reduceMul, Nat.reduceLeDiff, Nat.reduceDiv, Nat.reduceMod, Nat.reduceSub, Nat.reduceBEq, List.length_map, List.length_take, bs_len, rn_len, cut_bs, cut_bsd, Int.sub_zero, Int.toNat_natCast, Int.reduceToNat]
    generalize hW : List.contains (wrs _) 0 = b
    obtain rfl : b = false := hW.symm.trans (by kernel_rfl)
    simp only [E4, E3, E2, E5, rawX, deadX, ET, T, SB, List.not_mem_nil, ↓reduceIte, ne_eq, reduceCtorEq, Nat.reduceLT, Nat.reduceEqDiff, Nat.reduceAdd, Nat.reduceMul, Nat.reduceLeDiff, Nat.reduceDiv, Nat.reduceMod, Nat.reduceSub, Nat.reduceBEq, List.length_map, List.length_take, bs_len, rn_len, cut_bs, cut_bsd, Int.sub_zero, Int.toNat_natCast, Int.reduceToNat]
  · have hp : 0 < xs.length := by cases xs with | nil => exact absurd rfl h | cons _ _ => simp
    rw [show readEnd xs = .bad 50 from if_neg h]
    show CallB _ _ _ _ (.pan (errno 50))
    refine fn_okB' T_ok (orc_ok _) mixed Tryd.func72 rfl (by kernel_rfl) (lv [[0, 7], [0]]) 9 rfl (by simp) trivial ?_
    simp only [lentL, argsG, Nat.zero_add, Nat.reduceAdd, List.cons_append, List.nil_append]
    repeat' first
      | ((first
          | ((with_reducible refine vR_cons (by decide) ?_); generalize hk : KtR _ _ _ _ _ _ _ _ _ _ = k)
          | ((first
          | with_reducible refine vOps_cons' ?_) <;> generalize hk : Kt _ _ _ _ _ _ _ _ _ = k)) <;> (simp only [Tryd.f72, lv, E1, E2, E5, ET, T, orc_mv, noO_mv, mvB, orc_bx, noO_bx, bxB, orc_sx, noO_sx, sxB, fwd, fwds, inv, mOk, Int.toNat_natCast, Nat.div_one, Nat.mul_one, Int.reduceToNat, SB, List.not_mem_nil, ↓reduceIte, ne_eq, reduceCtorEq, Nat.reduceLT, Nat.reduceEqDiff, Nat.reduceAdd, Nat.reduceMul, Nat.reduceLeDiff, Nat.reduceDiv, Nat.reduceMod, Nat.reduceSub, Nat.reduceBEq, List.length_map, List.length_take, bs_len, rn_len, cut_bs, cut_bsd, Int.sub_zero, Int.toNat_natCast, Int.reduceToNat]; (try simp (disch := omega) only [wrap_in, Int.toNat_natCast, tv_rn, tv_bst]); subst hk))
      | with_reducible first | refine Kt_p ?_ | refine Kt_i (by kernel_rfl) ?_ | refine Kr_f (by kernel_rfl) ?_
      | (with_reducible refine Kr_t ?_; simp only [List.length_append, List.length_cons, List.length_nil, Nat.reduceAdd, Nat.reduceSub, List.drop_succ_cons, List.drop_zero])
      | with_reducible first | refine vR_nil ?_ | refine KtR_i (by kernel_rfl) ?_ | refine KrR_i (by kernel_rfl) ?_ | refine vR_skip (by decide) ?_
      | ((with_reducible refine vB_i ?_ ?_) <;> intro _ <;> (first | (exfalso; omega) | (exact absurd trivial ‹¬True›) | (try dsimp only [])))
      | ((with_reducible refine vOps_nil' ?_); refine Kr_i (by kernel_rfl) ?_; generalize hk : plain _ _ = G; simp only [lv, E3, E2, E5, rawX, deadX, SB, List.not_mem_nil, ↓reduceIte, ne_eq, reduceCtorEq, Nat.reduceLT, Nat.reduceEqDiff, Nat.reduceAdd, Nat.reduceMul, Nat.reduceLeDiff, Nat.reduceDiv, Nat.reduceMod, Nat.reduceSub, Nat.reduceBEq, List.length_map, List.length_take, bs_len, rn_len, cut_bs, cut_bsd, Int.sub_zero, Int.toNat_natCast, Int.reduceToNat] at hk; subst hk)
      | with_reducible refine vSeq_i ?_
      | with_reducible first | refine vRegion_i (by kernel_rfl) ?_ | refine Kv_i ?_
      | ((with_reducible apply vStrK_i); (focus (rfl; done)))
      | ((with_reducible refine imp_i ?_); intro _)
      | with_reducible first | refine Ks_n ?_ | refine Ks_r ?_ | refine Ks_e ?_ | refine Kl_e ?_ | refine Kx_n ?_ | refine Kl_r ?_ | refine vRet_i ?_ | refine vSkip_i ?_ | refine vExit_i ?_ | refine vBlock_i ?_ | refine Ks_p ?_ | refine Kl_p ?_ | refine blk_p ?_ | exact Kb_p | refine vGoto_i ?_ | refine vLabel_i ?_ | refine Ks_g ?_ | refine Kl_g ?_ | refine blk_g ?_ | refine jmp_g ?_ | refine jmp_n ?_ | refine jmp_r ?_ | refine nog_n ?_ | refine nog_r ?_ | refine blk_n ?_ | refine blk_r ?_ | refine blk_e ?_ | refine blk_o (by decide) ?_ | refine cp_t ?_ | refine cp_f ?_
      | ((with_reducible apply vCond_x); (focus (simp only [lv, E1, E2, E5, ET, T, orc_mv, noO_mv, mvB, orc_bx, noO_bx, bxB, orc_sx, noO_sx, sxB, fwd, fwds, inv, mOk, Int.toNat_natCast, Nat.div_one, Nat.mul_one, Int.reduceToNat, SB, List.not_mem_nil, ↓reduceIte, ne_eq, reduceCtorEq, Nat.reduceLT, Nat.reduceEqDiff, Nat.reduceAdd, Nat.reduceMul, Nat.reduceLeDiff, Nat.reduceDiv, Nat.reduceMod, Nat.reduceSub, Nat.reduceBEq, List.length_map, List.length_take, bs_len, rn_len, cut_bs, cut_bsd, Int.sub_zero, Int.toNat_natCast, Int.reduceToNat]; with_reducible first | exact Eq.refl (bo true) | exact Eq.refl (bo false))))
      | ((with_reducible refine And.intro ?_ ?_); (focus (try omega)))
    all_goals trace_state
end Go.Proofs.YtdpflafjfkooeaaDoorG
namespace Go.Proofs.YtdpflafjfkooeaaDoorG
open Go Go.RowKit Go.Proofs Go.Proofs.YtdpflafjfkooeaaDoorG.Dec
set_option linter.unusedSimpArgs false
set_option linter.unusedVariables false
theorem orc_b3 {P : Program} {f bs args K} {c1 c2 : Prop} {i1 : Decidable c1} {i2 : Decidable c2} {o1 o2 o3 : Out} (h : CallB P f bs args (if c1 then (if c2 then o1 else o2) else o3)) (h1 : c1 → c2 → K o1) (h2 : c1 → ¬ c2 → K o2) (h3 : ¬ c1 → K o3) : (orc P).b f bs args K := by
  refine ⟨_, h, ?_⟩
  split
  · split
    · exact h1 ‹_› ‹_›
    · exact h2 ‹_› ‹_›
  · exact h3 ‹_›
theorem rnum3 (xs : List Int) (hb : Bytes xs) (hl : xs.length ≤ 30000000000000) : CallB Tryd.prog 69 [(121, rdr xs)] [r0] (if 4 ≤ xs.length then (if numR xs > 2147483647 then .pan (errno 50) else .ret (i64 (numR xs)) (rbox (xs.drop 4))) else .pan (errno 20)) := by
  have h := rnum_ok xs hb (by omega)
  unfold readNum at h
  split at h
  · rename_i h1
    rw [if_pos h1]
    split at h
    · rename_i h2; rw [if_pos h2]; exact h
    · rename_i h2; rw [if_neg h2]; exact h
  · rename_i h1; rw [if_neg h1]; exact h
theorem rtext3 (xs : List Int) (hb : Bytes xs) (hl : xs.length ≤ 30000000000000) (n : Int) (h0 : 0 ≤ n) : CallB Tryd.prog 70 [(121, rdr xs)] [r0, i64 n] (if n ≤ xs.length then (if (dec (xs.take n.toNat)).2.2 = 0 then .ret (slr (dec (xs.take n.toNat)).1) (rbox (xs.drop n.toNat)) else .pan (errno (dec (xs.take n.toNat)).2.2)) else .pan (errno 20)) := by
  have h := rtext_ok xs hb hl n h0
  unfold readText at h
  split at h
  · rename_i h1
    rw [if_pos h1]
    split at h
    · rename_i h2; rw [if_pos h2]; exact h
    · rename_i h2; rw [if_neg h2]; exact h
  · rename_i h1; rw [if_neg h1]; exact h
theorem outR_ok {α : Type} {r : RR α} {g : α → X} (h : ∀ a, (g a).all TV.isV = true) : (outR r g).ok 1 := by
  cases r with
  | ok a rest => exact ⟨h a, rfl, by simp [TV.lent]⟩
  | bad e => trivial
theorem Kb_pr {T rs args W} {α : Type} {r : RR α} {g : α → X} {e : Int} {G} (h : r = .bad e) : Kb T rs args W (outR r g) (.panic (errno e)) G := by subst h; rfl
theorem Kb_rr {T rs args W} {α : Type} {r : RR α} {g : α → X} {a : α} {rest : List Int} {G} (h : r = .ok a rest) (hk : Kb T rs args W (.ret (g a) (rbox rest)) .ret G) : Kb T rs args W (outR r g) .ret G := by subst h; exact hk
end Go.Proofs.YtdpflafjfkooeaaDoorG
namespace Go.Proofs.YtdpflafjfkooeaaDoorG
open Go Go.RowKit Go.Proofs Go.Proofs.YtdpflafjfkooeaaDoorG.Dec
set_option linter.unusedSimpArgs false
set_option linter.unusedVariables false
theorem nt80 : Tryd.f80.ntmps = 14 := rfl
theorem rs80 : Tryd.f80.results = #[] := rfl
theorem nt50 : Tryd.f67.ntmps = 6 := rfl
theorem rs50 : Tryd.f67.results = #[.cell 2 32] := rfl
theorem ta31 (v : Value) (w : World) : (Instr.typeAssert (.iface 32 v) 20 32 true).run Tryd.prog w = .ok (.tuple #[v, .bool true]) w := by kernel_rfl
set_option maxHeartbeats 4000000 in
theorem caught_idle (p : Addr) (w : World) :
    CallsDIn Fence.wide 0 Tryd.prog 80 #[.pointer (some p)] .returning w fun e u' w' => e = .returned (.tuple #[]) ∧ u' = .returning ∧ w' = w := by
  refine callsDIn_of_wpSIn Tryd.func80 rfl trivial fun c₀ cs hu => ?_
  apply wpSIn_seq
  apply wpSIn_region
  simp [wpOpsSIn, go_sem, recoverD, hu, nt80, Exit.thenS]
  refine wpSIn_of_wpIn rfl ?_
  simp only [Array.replicate_succ, Array.replicate_zero, List.push_toArray, List.setIfInBounds_toArray, List.set, List.append_toArray, List.nil_append, List.cons_append, Array.setIfInBounds]
  gi_wp2
  cases c₀
  simp_all [bodyPostS, results, rs80]
set_option maxRecDepth 20000 in
set_option maxHeartbeats 8000000 in
theorem caught_back (p : Addr) (e n0 : Int) (w : World) (hc : w.cell? p = some (.int .i64 n0)) (hz : w.frozen? p = false) :
    CallsDIn Fence.wide 0 Tryd.prog 80 #[.pointer (some p)] (.panicking [{ v := errno e, recovered := false }]) w fun x u' w' =>
      x = .returned (.tuple #[]) ∧ u' = .panicking [{ v := errno e, recovered := true }] ∧ w' = (w.setCell p (.int .i64 50)).setCell p (.int .i64 e) := by
  refine callsDIn_of_wpSIn Tryd.func80 rfl trivial fun c₀ cs hu => ?_
  apply wpSIn_seq
  apply wpSIn_region
  simp [wpOpsSIn, go_sem, recoverD, hu, nt80, Exit.thenS]
  refine wpSIn_of_wpIn rfl ?_
  simp only [Array.replicate_succ, Array.replicate_zero, List.push_toArray, List.setIfInBounds_toArray, List.set, List.append_toArray, List.nil_append, List.cons_append, Array.setIfInBounds]
  apply wpIn_seq
  apply wpIn_region
  simp [wpOpsIn, go_sem, Exit.then]
  refine wpIn_cond (t := true) rfl ?_
  simp only [if_true]
  apply wpIn_seq
  apply wpIn_region
  simp [wpOpsIn, go_sem, Exit.then, hc, hz]
  apply wpIn_seq
  apply wpIn_region
  simp [wpOpsIn, go_sem, Exit.then, ta31]
  apply wpIn_seq
  apply wpIn_region
  simp [wpOpsIn, go_sem, Exit.then]
  refine wpIn_cond (t := true) rfl ?_
  simp only [if_true]
  apply wpIn_region
  have hz2 : (w.setCell p (.int .i64 50)).frozen? p = false := by simpa [go_sem] using hz
  have hc2 : (w.setCell p (.int .i64 50)).cell? p = some (.int .i64 50) := by simp [go_sem, hc]
  simp [wpOpsIn, go_sem, Exit.then, hc2, hz2, bodyPostS, results, rs80]
/-- What catches: its named result's cell, and how it ends. -/
theorem caught_ret (k : Nat) (caps : Array Value) (w : World) (Q : World → Prop) (hk : ∀ vs w, (callFunc k vs).run Tryd.prog w = .ok (.enter k vs) w)
    (h : Calls Tryd.prog k caps (w.alloc (.cells #[.int .i64 0] 32)) fun e w' => e = .returned (.tuple #[]) ∧ w'.cell? ⟨w.heap.size, 0, none⟩ = some (.int .i64 0) ∧ w'.frozen? ⟨w.heap.size, 0, none⟩ = false ∧ Q w') :
    Calls Tryd.prog 67 #[.func (.func k) #[] caps] w fun e w' => e = .returned (.int .i64 0) ∧ ∃ w2, Q w2 ∧ w' = w2.setCell ⟨w.heap.size, 0, none⟩ (.int .i64 0) := by
  have hmf : ∀ (fn : Fn) (first cap : Array Value) (w : World), (Instr.makeFunc fn first cap).run Tryd.prog w = .ok (.func fn first cap) w := fun _ _ _ _ => rfl
  have h80 : ∀ vs w, (callFunc 80 vs).run Tryd.prog w = .ok (.enter 80 vs) w := callable_of Tryd.func80 (by kernel_rfl)
  refine (callsIn_wide (n := 0)).1 (callsIn_of_wp_defers (F := Fence.wide) (n := 0) Tryd.func67 rfl trivial ?_)
  simp only [nt50, List.size_toArray, List.length_cons, List.length_nil, Nat.reduceAdd, Nat.reduceSub, Array.replicate_succ, Array.replicate_zero, List.push_toArray, List.append_toArray, List.nil_append, List.cons_append]
  apply wpIn_seq
  apply wpIn_region
  simp [wpOpsIn, go_sem, Exit.then, hmf]
  apply wpIn_seq
  apply wpIn_region
  simp [wpOpsIn, go_sem, Exit.then, hmf]
  apply wpIn_seq
  apply wpIn_region
  simp [wpOpsIn, go_sem, Exit.then, hk]
  refine ⟨trivial, rfl, ((callsIn_wide (n := 0)).2 h).mono ?_⟩
  rintro _ w' ⟨rfl, hc, hz, hq⟩
  dsimp only
  apply wpIn_seq
  apply wpIn_region
  simp [wpOpsIn, go_sem, Exit.then, hc, hz]
  apply wpIn_ret
  refine leavesIn_cons (f := 80) (args := #[.pointer (some ⟨w.heap.size, 0, none⟩)]) (by simp) (fun h => nomatch h) (by simp [go_sem, h80]) (fun _ _ => trivial) ?_
  refine (caught_idle ⟨w.heap.size, 0, none⟩ _).mono ?_
  rintro e u' w'' ⟨rfl, rfl, rfl⟩
  simp [LeavesIn, settle, results, rs50, go_sem, hc]
  exact ⟨_, hq, rfl⟩
theorem caught_pan (k : Nat) (caps : Array Value) (w : World) (n : Int) (Q : World → Prop) (hk : ∀ vs w, (callFunc k vs).run Tryd.prog w = .ok (.enter k vs) w)
    (h : Calls Tryd.prog k caps (w.alloc (.cells #[.int .i64 0] 32)) fun e w' => e = .panicked [{ v := errno n, recovered := false }] ∧ w'.cell? ⟨w.heap.size, 0, none⟩ = some (.int .i64 0) ∧ w'.frozen? ⟨w.heap.size, 0, none⟩ = false ∧ Q w') :
    Calls Tryd.prog 67 #[.func (.func k) #[] caps] w fun e w' => e = .returned (.int .i64 n) ∧ ∃ w2, Q w2 ∧ w' = (w2.setCell ⟨w.heap.size, 0, none⟩ (.int .i64 50)).setCell ⟨w.heap.size, 0, none⟩ (.int .i64 n) := by
  have hmf : ∀ (fn : Fn) (first cap : Array Value) (w : World), (Instr.makeFunc fn first cap).run Tryd.prog w = .ok (.func fn first cap) w := fun _ _ _ _ => rfl
  have h80 : ∀ vs w, (callFunc 80 vs).run Tryd.prog w = .ok (.enter 80 vs) w := callable_of Tryd.func80 (by kernel_rfl)
  refine (callsIn_wide (n := 0)).1 (callsIn_of_wp_defers (F := Fence.wide) (n := 0) Tryd.func67 rfl trivial ?_)
  simp only [nt50, List.size_toArray, List.length_cons, List.length_nil, Nat.reduceAdd, Nat.reduceSub, Array.replicate_succ, Array.replicate_zero, List.push_toArray, List.append_toArray, List.nil_append, List.cons_append]
  apply wpIn_seq
  apply wpIn_region
  simp [wpOpsIn, go_sem, Exit.then, hmf]
  apply wpIn_seq
  apply wpIn_region
  simp [wpOpsIn, go_sem, Exit.then, hmf]
  apply wpIn_seq
  apply wpIn_region
  simp [wpOpsIn, go_sem, Exit.then, hk]
  refine ⟨trivial, rfl, ((callsIn_wide (n := 0)).2 h).mono ?_⟩
  rintro _ w' ⟨rfl, hc, hz, hq⟩
  dsimp only
  refine leavesIn_cons (f := 80) (args := #[.pointer (some ⟨w.heap.size, 0, none⟩)]) (by simp) (fun h => nomatch h) (by simp [go_sem, h80]) (fun _ _ => trivial) ?_
  refine (caught_back ⟨w.heap.size, 0, none⟩ n 0 _ hc hz).mono ?_
  rintro e u' w'' ⟨rfl, rfl, rfl⟩
  simp [LeavesIn, settle, results, rs50, go_sem, hc]
  exact ⟨_, hq, rfl⟩
/-- But for the named result's cell. -/
structure But (b0 : Nat) (w2 w3 : World) : Prop where
  os : w3.os = w2.os
  tape : w3.tape = w2.tape
  output : w3.output = w2.output
  size : w3.heap.size = w2.heap.size
  blk : ∀ b, b ≠ b0 → w3.heap[b]? = w2.heap[b]?
theorem But.set (w : World) (b0 : Nat) (v : Value) : But b0 w (w.setCell ⟨b0, 0, none⟩ v) := ⟨rfl, rfl, rfl, by simp [World.setCell], fun b hb => Below.heap_setCell _ _ _ _ hb⟩
theorem But.trans {b0 : Nat} {w w1 w2 : World} (h : But b0 w w1) (k : But b0 w1 w2) : But b0 w w2 := ⟨k.os.trans h.os, k.tape.trans h.tape, k.output.trans h.output, k.size.trans h.size, fun b hb => (k.blk b hb).trans (h.blk b hb)⟩
theorem caught_fr {w w2 w3 : World} {ob : Obj} {o o' : Nat → Tag} (hf : Fr (w.alloc ob) w2 o o') (h3 : But w.heap.size w2 w3) : Fr w w3 o o' := by
  have hlt : ∀ b, b < w.heap.size → b < (w.alloc ob).heap.size := fun b hb => by simp only [World.size_alloc]; omega
  refine ⟨h3.os.trans hf.os, h3.tape.trans hf.tape, h3.output.trans hf.output, by have := hf.size; rw [h3.size]; simp only [World.size_alloc] at this; omega, fun b hb ho => ?_, fun b hb ho => ?_⟩
  · have := hf.keep b (hlt b hb) ho
    exact ⟨((h3.blk b (by omega)).trans this.1).trans (Below.heap_alloc _ _ _ hb), this.2⟩
  · obtain ⟨q1, q2⟩ := hf.bx b (hlt b hb) ho
    exact ⟨q1, ((Shp.of_eq (Below.heap_alloc _ _ _ hb)).trans q2).trans (Shp.of_eq (h3.blk b (by omega)))⟩
theorem caught_cell {w w2 : World} {o o' : Nat → Tag} {v : Value} (hf : Fr (w.alloc (.cells #[v] 32)) w2 o o') (ht : o w.heap.size = .other) : w2.cell? ⟨w.heap.size, 0, none⟩ = some v ∧ w2.frozen? ⟨w.heap.size, 0, none⟩ = false ∧ o' w.heap.size = .other := by
  have h := hf.keep w.heap.size (by simp only [World.size_alloc]; omega) (.inl ht)
  have h0 : w2.heap[w.heap.size]? = some (.cells #[v] 32 (0, 0)) := h.1.trans (World.alloc_heap_new w _)
  exact ⟨by simp [World.cell?, h0], by simp [World.frozen?, h0], h.2.trans ht⟩
abbrev lentA (hs : List Nat) : List X := hs.map fun j => .p (.one (.pr j 0))
section
variable {k : Nat} {bs : Boxes} {hs : List Nat} {w : World} {g : Gh}
theorem caught_go {out : Out} (hk : CallB Tryd.prog k bs (lentA hs) out) (hg : ∀ b, g.o b = .other ∨ g.o b = .imm ∨ ∃ k, g.o b = .box k) (hlt : ∀ b, g.o b ≠ .other → b < w.heap.size) (hgr : GR w g.o) (hbx : ∀ k ty xs, bs[k]? = some (ty, xs) → BoxR w g k ty xs) :
    Calls Tryd.prog k ((hs).map fun h => Value.pointer (some ⟨g.bk h, 0, none⟩)).toArray (w.alloc (.cells #[.int .i64 0] 32)) fun e w' => out.post (w.alloc (.cells #[.int .i64 0] 32)) g e w' := by
  have hE : Ext w (w.alloc (.cells #[.int .i64 0] 32)) g g none fun _ => True := ⟨by simp, fun b hb _ => ⟨Below.heap_alloc _ _ _ (hlt b hb), rfl⟩, fun b hb => by have := hlt b hb; simp only [World.size_alloc]; omega, fun _ _ => rfl, fun _ _ => rfl⟩
  refine hk.calls _ _ g hg (fun b hb => by have := hlt b hb; simp only [World.size_alloc]; omega) (hE.gr hgr) ⟨by simp, fun j u x h1 h2 => ?_⟩ fun k ty xs h => hE.boxr trivial (by simp) (fun _ _ => trivial) (hbx k ty xs h)
  simp only [List.getElem?_map, Option.map_eq_some_iff] at h1 h2
  obtain ⟨i, e1, rfl⟩ := h1
  obtain ⟨i', e2, rfl⟩ := h2
  rw [e1] at e2
  cases e2
  rfl
end
theorem callable50 : ∀ vs w, (callFunc 67 vs).run Tryd.prog w = .ok (.enter 67 vs) w := callable_of Tryd.func67 (by kernel_rfl)
theorem all2_one {w : World} {g : Gh} {vs : List Value} {x : X} (h : All2 (XR w g) vs [x]) : ∃ v, vs = [v] ∧ XR w g v x := by
  cases vs with
  | nil => have := h.1; simp at this
  | cons v vs => cases vs with
    | nil => exact ⟨v, rfl, h.head⟩
    | cons v' vs => have := h.1; simp at this
theorem caught_okR {k : Nat} {bs bs' : Boxes} {hs : List Nat} (hk : CallB Tryd.prog k bs (lentA hs) (.ret (.tup []) bs')) : CallB Tryd.prog 67 bs [.p (.one (.cb k (hs)))] (.ret (i64 0) bs') := by
  refine ⟨callable50, ⟨by simp [X.all, PX.all, TV.isV], hk.resok.2⟩, fun w vs g hg hlt hgr hall hbx => ?_⟩
  obtain ⟨v, rfl, hv⟩ := all2_one hall
  have hv' : v = .func (.func k) #[] ((hs).map fun h => Value.pointer (some ⟨g.bk h, 0, none⟩)).toArray := hv
  subst hv'
  have ht : g.o w.heap.size = .other := by rcases Decidable.em (g.o w.heap.size = .other) with h | h; exact h; exact absurd (hlt _ h) (by omega)
  refine (caught_ret k _ w (fun w2 => ∃ g', Fr (w.alloc (.cells #[.int .i64 0] 32)) w2 g.o g'.o ∧ (∀ b, g'.o b ≠ .other → b < w2.heap.size) ∧ ∀ k ty xs, bs'[k]? = some (ty, xs) → xs ≠ [] → BoxR w2 g' k ty xs ∧ g'.bk k = g.bk k) hk.callable ((caught_go hk hg hlt hgr hbx).mono ?_)).mono ?_
  · rintro e w' ⟨v, g', rfl, hf, h1, ⟨us, rfl, hx⟩, h3⟩
    obtain ⟨q1, q2, q3⟩ := caught_cell hf ht
    refine ⟨?_, q1, q2, g', hf, h1, h3⟩
    have : us.toList = [] := by cases hh : us.toList with
      | nil => rfl
      | cons a b => have := hx.1; simp [hh] at this
    rw [show us = #[] from Array.toList_eq_nil_iff.1 this]
  · rintro e w' ⟨rfl, w2, ⟨g', hf, h1, h3⟩, rfl⟩
    obtain ⟨q1, q2, q3⟩ := caught_cell hf ht
    have hB := But.set w2 w.heap.size (.int .i64 0)
    have hE : Ext w2 (w2.setCell ⟨w.heap.size, 0, none⟩ (.int .i64 0)) g' g' none fun _ => True := ⟨Nat.le_of_eq hB.size.symm, fun b hb _ => ⟨hB.blk b fun h => hb (h ▸ q3), rfl⟩, fun b hb => by rw [hB.size]; exact h1 b hb, fun _ _ => rfl, fun _ _ => rfl⟩
    exact ⟨_, g', rfl, caught_fr hf hB, fun b hb => by rw [hB.size]; exact h1 b hb, SVR.raw _ rfl, fun k ty xs hk hne => ⟨hE.boxr trivial (by simp) (fun _ _ => trivial) (h3 k ty xs hk hne).1, (h3 k ty xs hk hne).2⟩⟩
/-- Variables of which nothing is known but their shape. -/
abbrev lost (bs : Boxes) : Boxes := bs.map fun b => (b.1, b.2.map fun _ => .dead)
theorem caught_okP {k : Nat} {bs : Boxes} {hs : List Nat} {n : Int} (hk : CallB Tryd.prog k bs (lentA hs) (.pan (errno n))) : CallB Tryd.prog 67 bs [.p (.one (.cb k (hs)))] (.ret (i64 n) (lost bs)) := by
  refine ⟨callable50, ⟨by simp [X.all, PX.all, TV.isV], by simp, fun b hb => ?_⟩, fun w vs g hg hlt hgr hall hbx => ?_⟩
  · obtain ⟨b', _, rfl⟩ := List.mem_map.1 hb
    intro x hx
    obtain ⟨_, _, rfl⟩ := List.mem_map.1 hx
    rfl
  obtain ⟨v, rfl, hv⟩ := all2_one hall
  have hv' : v = .func (.func k) #[] ((hs).map fun h => Value.pointer (some ⟨g.bk h, 0, none⟩)).toArray := hv
  subst hv'
  have ht : g.o w.heap.size = .other := by rcases Decidable.em (g.o w.heap.size = .other) with h | h; exact h; exact absurd (hlt _ h) (by omega)
  refine (caught_pan k _ w n (fun w2 => ∃ o', Fr (w.alloc (.cells #[.int .i64 0] 32)) w2 g.o o') hk.callable ((caught_go hk hg hlt hgr hbx).mono ?_)).mono ?_
  · rintro e w' ⟨rfl, o', hf⟩
    obtain ⟨q1, q2, q3⟩ := caught_cell hf ht
    exact ⟨rfl, q1, q2, o', hf⟩
  · rintro e w' ⟨rfl, w2, ⟨o', hf⟩, rfl⟩
    have hB := (But.set w2 w.heap.size (.int .i64 50)).trans (But.set _ w.heap.size (.int .i64 n))
    have hF := caught_fr hf hB
    refine ⟨_, g, rfl, ⟨hF.os, hF.tape, hF.output, hF.size, fun b hb ho => ⟨(hF.keep b hb ho).1, rfl⟩, fun b hb ho => ⟨?_, (hF.bx b hb ho).2⟩⟩, fun b hb => Nat.lt_of_lt_of_le (hlt b hb) hF.size, SVR.raw _ rfl, fun j ty xs hj hne => ?_⟩
    · obtain ⟨j, hj⟩ := ho
      rw [hj]
      rfl
    · simp only [List.getElem?_map, Option.map_eq_some_iff] at hj
      obtain ⟨⟨ty0, xs0⟩, hb0, hj⟩ := hj
      cases hj
      obtain ⟨cur, q1, q2, q3⟩ := hbx j ty0 xs0 hb0
      obtain ⟨cur', q4, q5⟩ := (hF.bx (g.bk j) (hlt _ (by rw [q2]; simp)) ⟨_, q2⟩).2 cur ty0 (0, 0) q1
      refine ⟨⟨cur', q4, q2, by have := q3.1; simp only [Array.length_toList, List.length_map] at *; omega, fun i u x h1 h2 => ?_⟩, rfl⟩
      simp only [List.getElem?_map, Option.map_eq_some_iff] at h2
      obtain ⟨_, _, rfl⟩ := h2
      trivial
end Go.Proofs.YtdpflafjfkooeaaDoorG
namespace Go.Proofs.YtdpflafjfkooeaaDoorG
open Go Go.RowKit Go.Proofs Go.Proofs.YtdpflafjfkooeaaDoorG.Dec
set_option linter.unusedSimpArgs false
set_option linter.unusedVariables false
/-- Own rows among what a function gives, as values. -/
def rowsF (rows : Rows) : Nm → C
  | .row k => match rows[k]? with | some (ty, e, xs) => .row ty e xs | none => .none
  | _ => .none
theorem CallOk.frz {P : Program} {f : Nat} {args : List X} {res y : X} {rows : Rows} {fr : Bool} {hs : List Nat} (h : CallOk P f args res rows fr) (hx : endX (rowsF rows) res = some (y, hs)) (hy : y.all TV.res = true) : CallOk P f args y [] false :=
  ⟨h.callable, hy, fun h => (by cases h), fun w vs g hg hlt hgr hall => (h.calls w vs g hg hlt hgr hall).mono (by
    rintro e w' ⟨v, g', rfl, hf, ht, hv, hr⟩
    have r : Rel (rowsF rows) 0 { tmps := #[], defers := [] } w' g' := ⟨rfl, rfl, ht, hgr.keep fun q => (fun k => ⟨k.1, k.2.trans q⟩) (hf.keep 0 (hlt 0 (by rw [q]; simp)) (.inr q)), fun n => by
      cases n with
      | t i => trivial
      | box k => trivial
      | row k =>
        simp only [rowsF]
        cases hk : rows[k]? with
        | none => trivial
        | some x => exact hr k x.1 x.2.1 x.2.2 hk⟩
    exact ⟨v, g'.frz hs, rfl, hf.trans (Fr.frz _ _ _), (r.frz _).tags, (endX_rel r hx (fun _ h => h) hv).1, fun k ty e xs hk => by simp at hk⟩)⟩
/-- An operation's cells. -/
def Opn.cs (o : Opn) : List TV := [.v (.raw (.int .i64 o.kind)), .v (.raw (.int .i64 o.at_)), .v (.raw (.int .i64 o.to_)), .v (.sl 1 (rn o.text))]
end Go.Proofs.YtdpflafjfkooeaaDoorG
