/- YtdpflafjfkooeaaGreatDoorZ19: a part of the proof, joined of its texts. -/
import Derived.Test.YtdpflafjfkooeaaGreatDoorZ18
namespace Go.Proofs.YtdpflafjfkooeaaGreatDoorG
open Go Go.RowKit Go.Proofs Go.Proofs.YtdpflafjfkooeaaGreatDoorG.Dec
set_option linter.unusedSimpArgs false
set_option linter.unusedVariables false
theorem tv_bst {l : List Int} {n j : Nat} (h : j < n) (h2 : j < l.length) : (List.map TV.v (bs (List.take n l))).getD j .dead = .v (.raw (.int .u8 (rd l j))) := by
  rw [tv_bs (by simp only [List.length_take]; omega)]
  simp [rd, List.getD, List.getElem?_take, h]
theorem orc_bj {P : Program} {f bs args K} {c : Prop} {inst : Decidable c} {o1 o2 : Out} (h : CallB P f bs args (if c then o1 else o2)) (h1 : c → K o1) (h2 : ¬ c → K o2) : (orc P).b f bs args K := orc_bi h h1 h2
/-- What a reading comes to. -/
inductive RR (α : Type) where
  | ok (a : α) (rest : List Int)
  | bad (e : Int)
abbrev rbox (xs : List Int) : Boxes := [(127, rdr xs)]
def outR {α : Type} (r : RR α) (g : α → X) : Out := match r with
  | .ok a rest => .ret (g a) (rbox rest)
  | .bad e => .pan (errno e)
def numR (xs : List Int) : Int := rd xs 0 * 16777216 + rd xs 1 * 65536 + rd xs 2 * 256 + rd xs 3
def readNum (xs : List Int) : RR Int := if 4 ≤ xs.length then (if numR xs > 2147483647 then .bad 50 else .ok (numR xs) (xs.drop 4)) else .bad 20
theorem num_or {a b c d : Int} (ha : 0 ≤ a ∧ a ≤ 255) (hb : 0 ≤ b ∧ b ≤ 255) (hc : 0 ≤ c ∧ c ≤ 255) (hd : 0 ≤ d ∧ d ≤ 255) :
    bitI .or .i64 (bitI .or .i64 (bitI .or .i64 (IntKind.i64.wrap (IntKind.i64.wrap a * 2 ^ min 24 IntKind.i64.bits)) (IntKind.i64.wrap (IntKind.i64.wrap b * 2 ^ min 16 IntKind.i64.bits))) (IntKind.i64.wrap (IntKind.i64.wrap c * 2 ^ min 8 IntKind.i64.bits))) (IntKind.i64.wrap d) = a * 16777216 + b * 65536 + c * 256 + d := by
  have e1 : (2 : Int) ^ min 24 IntKind.i64.bits = 2 ^ 24 := rfl
  have e2 : (2 : Int) ^ min 16 IntKind.i64.bits = 2 ^ 16 := rfl
  have e3 : (2 : Int) ^ min 8 IntKind.i64.bits = 2 ^ 8 := rfl
  rw [e1, e2, e3, wrap_in (n := a) (by omega) (by omega), wrap_in (n := b) (by omega) (by omega), wrap_in (n := c) (by omega) (by omega), wrap_in (n := d) (by omega) (by omega),
    wrap_in (n := a * 2 ^ 24) (by omega) (by omega), wrap_in (n := b * 2 ^ 16) (by omega) (by omega), wrap_in (n := c * 2 ^ 8) (by omega) (by omega)]
  rw [or_add (k := 24) ha.1 (by omega) (by omega) (by omega)]
  rw [show a * 2 ^ 24 + b * 2 ^ 16 = (a * 2 ^ 8 + b) * 2 ^ 16 by omega, or_add (k := 16) (by omega) (by omega) (by omega) (by omega)]
  rw [show (a * 2 ^ 8 + b) * 2 ^ 16 + c * 2 ^ 8 = ((a * 2 ^ 8 + b) * 2 ^ 8 + c) * 2 ^ 8 by omega, or_add (k := 8) (by omega) hd.1 (by omega) (by omega)]
  omega
theorem rk {xs : List Int} (hl : xs.length ≤ 140000000000000) (n : Int) (h0 : 0 ≤ n) : CallB Tryz.prog 79 [(127, rdr xs)] [r0, i64 n] (if n ≤ xs.length then .ret (sl (bs (xs.take n.toNat))) [(127, rdr (xs.drop n.toNat))] else .pan (errno 20)) := take_ok xs n h0 hl
theorem DBE2 : type_of% (And.intro @List.length_map.{0,0} (And.intro @List.length_take.{0} (And.intro @bs_len (And.intro @rn_len (And.intro @cut_bs (And.intro @cut_bsd (And.intro @Int.sub_zero @Int.toNat_natCast))))))) := ⟨@List.length_map.{0,0}, @List.length_take.{0}, @bs_len, @rn_len, @cut_bs, @cut_bsd, @Int.sub_zero, @Int.toNat_natCast⟩
set_option maxRecDepth 10000 in
set_option maxHeartbeats 4000000 in
theorem rnum_ok (xs : List Int) (hb : Bytes xs) (hl : xs.length ≤ 140000000000000) : CallB Tryz.prog 67 [(127, rdr xs)] [r0] (outR (readNum xs) i64) := by
  have b0 := rd_bd hb 0
  have b1 := rd_bd hb 1
  have b2 := rd_bd hb 2
  have b3 := rd_bd hb 3
  have hn := num_or (a := rd xs ((0 : Nat) : Int)) (b := rd xs ((1 : Nat) : Int)) (c := rd xs ((2 : Nat) : Int)) (d := rd xs ((3 : Nat) : Int)) b0 b1 b2 b3
  rw [show rd xs ((0 : Nat) : Int) * 16777216 + rd xs ((1 : Nat) : Int) * 65536 + rd xs ((2 : Nat) : Int) * 256 + rd xs ((3 : Nat) : Int) = numR xs from rfl] at hn
  by_cases h : 4 ≤ xs.length
  · have e : readNum xs = if numR xs > 2147483647 then .bad 50 else .ok (numR xs) (xs.drop 4) := if_pos h
    by_cases h2 : numR xs > 2147483647
    · rw [e, if_pos h2]
      show CallB _ _ _ _ (.pan (errno 50))
      refine fn_okB' T_ok (orc_ok _) mixed Tryz.func67 rfl (by kernel_rfl) (lv [[0], [0, 3], [0, 4], [0, 4, 30], [0, 4], [0, 2]]) 33 rfl (by simp) trivial ?_
      simp only [lentL, argsG, Nat.zero_add, Nat.reduceAdd, List.cons_append, List.nil_append]
      repeat' first
        | ((first
            | ((with_reducible refine vR_cons (by decide) ?_); generalize hk : KtR _ _ _ _ _ _ _ _ _ _ = k)
            | ((first
            | with_reducible refine vOps_cons' ?_
            | ((with_reducible apply orc_bj); (focus (exact rk hl 4 (by omega); done)); (all_goals intro hb))
            | ((with_reducible refine Or.inr ?_); (with_reducible apply orc_bj); (focus (exact rk hl 4 (by omega); done)); (all_goals intro hb))) <;> generalize hk : Kt _ _ _ _ _ _ _ _ _ = k)) <;> (simp only [Tryz.f67, lv, E1, E2, E5, ET, T, mvB, bxB, sxB, rxB, fwd, fwds, inv, mOk, EB, Int.reduceToNat, ↓reduceIte, reduceCtorEq, Nat.reduceLT, Nat.reduceEqDiff, Nat.reduceAdd, Nat.reduceMul, Nat.reduceLeDiff, Nat.reduceDiv, Nat.reduceMod, Nat.reduceSub, Nat.reduceBEq, DBE2, Int.reduceToNat]; (try simp (disch := omega) only [wrap_in, Int.toNat_natCast, tv_rn, tv_bst]); subst hk))
        | with_reducible first | refine Kt_p ?_ | refine Kt_i (by kernel_rfl) ?_ | refine Kr_f (by kernel_rfl) ?_
        | (with_reducible refine Kr_t ?_; simp only [List.length_append, List.length_cons, List.length_nil, Nat.reduceAdd, Nat.reduceSub, List.drop_succ_cons, List.drop_zero])
        | with_reducible first | refine vR_nil ?_ | refine KtR_i (by kernel_rfl) ?_ | refine KrR_i (by kernel_rfl) ?_ | refine vR_skip (by decide) ?_
        | ((with_reducible refine vB_i ?_ ?_) <;> intro _ <;> (first | (exfalso; omega) | (exact absurd trivial ‹¬True›) | (try dsimp only [])))
        | ((with_reducible refine vOps_nil' ?_); refine Kr_i (by kernel_rfl) ?_; generalize hk : plain _ _ = G; simp only [lv, E3, E2, E5, rawX, deadX, EB, ↓reduceIte, reduceCtorEq, Nat.reduceLT, Nat.reduceEqDiff, Nat.reduceAdd, Nat.reduceMul, Nat.reduceLeDiff, Nat.reduceDiv, Nat.reduceMod, Nat.reduceSub, Nat.reduceBEq, DBE2, Int.reduceToNat] at hk; subst hk)
        | with_reducible refine vSeq_i ?_
        | with_reducible first | refine vRegion_i (by kernel_rfl) ?_ | refine Kv_i ?_
        | ((with_reducible apply vStrK_i); (focus (rfl; done)))
        | ((with_reducible refine imp_i ?_); intro _)
        | with_reducible first | refine Ks_n ?_ | refine Ks_r ?_ | refine Ks_e ?_ | refine Kl_e ?_ | refine Kx_n ?_ | refine Kl_r ?_ | refine vRet_i ?_ | refine vSkip_i ?_ | refine vExit_i ?_ | refine vBlock_i ?_ | refine Ks_p ?_ | refine Kl_p ?_ | refine blk_p ?_ | exact Kb_p | refine vGoto_i ?_ | refine vLabel_i ?_ | refine Ks_g ?_ | refine Kl_g ?_ | refine blk_g ?_ | refine jmp_g ?_ | refine jmp_n ?_ | refine jmp_r ?_ | refine nog_n ?_ | refine nog_r ?_ | refine blk_n ?_ | refine blk_r ?_ | refine blk_e ?_ | refine blk_o (by decide) ?_ | refine cp_t ?_ | refine cp_f ?_
        | ((with_reducible apply vCond_x); (focus (simp only [lv, E1, E2, E5, ET, T, mvB, bxB, sxB, rxB, fwd, fwds, inv, mOk, EB, Int.reduceToNat, ↓reduceIte, reduceCtorEq, Nat.reduceLT, Nat.reduceEqDiff, Nat.reduceAdd, Nat.reduceMul, Nat.reduceLeDiff, Nat.reduceDiv, Nat.reduceMod, Nat.reduceSub, Nat.reduceBEq, DBE2, Int.reduceToNat]; with_reducible first | exact Eq.refl (bo true) | exact Eq.refl (bo false))))
        | ((with_reducible refine And.intro ?_ ?_); (focus (try omega)))
      all_goals omega
    · rw [e, if_neg h2]
      show CallB _ _ _ _ (.ret (i64 (numR xs)) (rbox (xs.drop 4)))
      refine fn_okB' T_ok (orc_ok _) mixed Tryz.func67 rfl (by kernel_rfl) (lv [[0], [0, 3], [0, 4], [0, 4, 30], [0, 4], [0, 2]]) 33 rfl (by simp) (by simp [outR, Out.ok, X.all, PX.all, TV.isV, TV.lent]) ?_
      simp only [lentL, argsG, Nat.zero_add, Nat.reduceAdd, List.cons_append, List.nil_append]
      repeat' first
        | ((first
            | ((with_reducible refine vR_cons (by decide) ?_); generalize hk : KtR _ _ _ _ _ _ _ _ _ _ = k)
            | ((first
            | with_reducible refine vOps_cons' ?_
            | ((with_reducible apply orc_bj); (focus (exact rk hl 4 (by omega); done)); (all_goals intro hb))
            | ((with_reducible refine Or.inr ?_); (with_reducible apply orc_bj); (focus (exact rk hl 4 (by omega); done)); (all_goals intro hb))) <;> generalize hk : Kt _ _ _ _ _ _ _ _ _ = k)) <;> (simp only [Tryz.f67, lv, E1, E2, E5, ET, T, mvB, bxB, sxB, rxB, fwd, fwds, inv, mOk, EB, Int.reduceToNat, ↓reduceIte, reduceCtorEq, Nat.reduceLT, Nat.reduceEqDiff, Nat.reduceAdd, Nat.reduceMul, Nat.reduceLeDiff, Nat.reduceDiv, Nat.reduceMod, Nat.reduceSub, Nat.reduceBEq, DBE2, Int.reduceToNat]; (try simp (disch := omega) only [wrap_in, Int.toNat_natCast, tv_rn, tv_bst]); subst hk))
        | with_reducible first | refine Kt_p ?_ | refine Kt_i (by kernel_rfl) ?_ | refine Kr_f (by kernel_rfl) ?_
        | (with_reducible refine Kr_t ?_; simp only [List.length_append, List.length_cons, List.length_nil, Nat.reduceAdd, Nat.reduceSub, List.drop_succ_cons, List.drop_zero])
        | with_reducible first | refine vR_nil ?_ | refine KtR_i (by kernel_rfl) ?_ | refine KrR_i (by kernel_rfl) ?_ | refine vR_skip (by decide) ?_
        | ((with_reducible refine vB_i ?_ ?_) <;> intro _ <;> (first | (exfalso; omega) | (exact absurd trivial ‹¬True›) | (try dsimp only [])))
        | ((with_reducible refine vOps_nil' ?_); refine Kr_i (by kernel_rfl) ?_; generalize hk : plain _ _ = G; simp only [lv, E3, E2, E5, rawX, deadX, EB, ↓reduceIte, reduceCtorEq, Nat.reduceLT, Nat.reduceEqDiff, Nat.reduceAdd, Nat.reduceMul, Nat.reduceLeDiff, Nat.reduceDiv, Nat.reduceMod, Nat.reduceSub, Nat.reduceBEq, DBE2, Int.reduceToNat] at hk; subst hk)
        | with_reducible refine vSeq_i ?_
        | with_reducible first | refine vRegion_i (by kernel_rfl) ?_ | refine Kv_i ?_
        | ((with_reducible apply vStrK_i); (focus (rfl; done)))
        | ((with_reducible refine imp_i ?_); intro _)
        | with_reducible first | refine Ks_n ?_ | refine Ks_r ?_ | refine Ks_e ?_ | refine Kl_e ?_ | refine Kx_n ?_ | refine Kl_r ?_ | refine vRet_i ?_ | refine vSkip_i ?_ | refine vExit_i ?_ | refine vBlock_i ?_ | refine Ks_p ?_ | refine Kl_p ?_ | refine blk_p ?_ | exact Kb_p | refine vGoto_i ?_ | refine vLabel_i ?_ | refine Ks_g ?_ | refine Kl_g ?_ | refine blk_g ?_ | refine jmp_g ?_ | refine jmp_n ?_ | refine jmp_r ?_ | refine nog_n ?_ | refine nog_r ?_ | refine blk_n ?_ | refine blk_r ?_ | refine blk_e ?_ | refine blk_o (by decide) ?_ | refine cp_t ?_ | refine cp_f ?_
        | ((with_reducible apply vCond_x); (focus (simp only [lv, E1, E2, E5, ET, T, mvB, bxB, sxB, rxB, fwd, fwds, inv, mOk, EB, Int.reduceToNat, ↓reduceIte, reduceCtorEq, Nat.reduceLT, Nat.reduceEqDiff, Nat.reduceAdd, Nat.reduceMul, Nat.reduceLeDiff, Nat.reduceDiv, Nat.reduceMod, Nat.reduceSub, Nat.reduceBEq, DBE2, Int.reduceToNat]; with_reducible first | exact Eq.refl (bo true) | exact Eq.refl (bo false))))
        | ((with_reducible refine And.intro ?_ ?_); (focus (try omega)))
      all_goals first | (exfalso; omega) | skip
      rw [hn]
      first | refine Kb_r ?_ | refine Kb_n ?_
      simp only [Tryz.f67, E4, E3, E2, E5, rawX, deadX, ET, T, EB, ↓reduceIte, reduceCtorEq, Nat.reduceLT, Nat.reduceEqDiff, Nat.reduceAdd, Nat.reduceMul, Nat.reduceLeDiff, Nat.reduceDiv, Nat.reduceMod, Nat.reduceSub, Nat.reduceBEq, DBE2, Int.reduceToNat]
      generalize hW : List.contains (wrs _) 0 = b
      obtain rfl : b = false := hW.symm.trans (by kernel_rfl)
      simp only [E4, E3, E2, E5, rawX, deadX, ET, T, EB, ↓reduceIte, reduceCtorEq, Nat.reduceLT, Nat.reduceEqDiff, Nat.reduceAdd, Nat.reduceMul, Nat.reduceLeDiff, Nat.reduceDiv, Nat.reduceMod, Nat.reduceSub, Nat.reduceBEq, DBE2, Int.reduceToNat]
  · rw [show readNum xs = .bad 20 from if_neg h]
    show CallB _ _ _ _ (.pan (errno 20))
    refine fn_okB' T_ok (orc_ok _) mixed Tryz.func67 rfl (by kernel_rfl) (lv [[0], [0, 3], [0, 4], [0, 4, 30], [0, 4], [0, 2]]) 33 rfl (by simp) trivial ?_
    simp only [lentL, argsG, Nat.zero_add, Nat.reduceAdd, List.cons_append, List.nil_append]
    repeat' first
      | ((first
          | ((with_reducible refine vR_cons (by decide) ?_); generalize hk : KtR _ _ _ _ _ _ _ _ _ _ = k)
          | ((first
          | with_reducible refine vOps_cons' ?_
          | ((with_reducible apply orc_bj); (focus (exact rk hl 4 (by omega); done)); (all_goals intro hb))
          | ((with_reducible refine Or.inr ?_); (with_reducible apply orc_bj); (focus (exact rk hl 4 (by omega); done)); (all_goals intro hb))) <;> generalize hk : Kt _ _ _ _ _ _ _ _ _ = k)) <;> (simp only [Tryz.f67, lv, E1, E2, E5, ET, T, mvB, bxB, sxB, rxB, fwd, fwds, inv, mOk, EB, Int.reduceToNat, ↓reduceIte, reduceCtorEq, Nat.reduceLT, Nat.reduceEqDiff, Nat.reduceAdd, Nat.reduceMul, Nat.reduceLeDiff, Nat.reduceDiv, Nat.reduceMod, Nat.reduceSub, Nat.reduceBEq, DBE2, Int.reduceToNat]; (try simp (disch := omega) only [wrap_in, Int.toNat_natCast, tv_rn, tv_bst]); subst hk))
      | with_reducible first | refine Kt_p ?_ | refine Kt_i (by kernel_rfl) ?_ | refine Kr_f (by kernel_rfl) ?_
      | (with_reducible refine Kr_t ?_; simp only [List.length_append, List.length_cons, List.length_nil, Nat.reduceAdd, Nat.reduceSub, List.drop_succ_cons, List.drop_zero])
      | with_reducible first | refine vR_nil ?_ | refine KtR_i (by kernel_rfl) ?_ | refine KrR_i (by kernel_rfl) ?_ | refine vR_skip (by decide) ?_
      | ((with_reducible refine vB_i ?_ ?_) <;> intro _ <;> (first | (exfalso; omega) | (exact absurd trivial ‹¬True›) | (try dsimp only [])))
      | ((with_reducible refine vOps_nil' ?_); refine Kr_i (by kernel_rfl) ?_; generalize hk : plain _ _ = G; simp only [lv, E3, E2, E5, rawX, deadX, EB, ↓reduceIte, reduceCtorEq, Nat.reduceLT, Nat.reduceEqDiff, Nat.reduceAdd, Nat.reduceMul, Nat.reduceLeDiff, Nat.reduceDiv, Nat.reduceMod, Nat.reduceSub, Nat.reduceBEq, DBE2, Int.reduceToNat] at hk; subst hk)
      | with_reducible refine vSeq_i ?_
      | with_reducible first | refine vRegion_i (by kernel_rfl) ?_ | refine Kv_i ?_
      | ((with_reducible apply vStrK_i); (focus (rfl; done)))
      | ((with_reducible refine imp_i ?_); intro _)
      | with_reducible first | refine Ks_n ?_ | refine Ks_r ?_ | refine Ks_e ?_ | refine Kl_e ?_ | refine Kx_n ?_ | refine Kl_r ?_ | refine vRet_i ?_ | refine vSkip_i ?_ | refine vExit_i ?_ | refine vBlock_i ?_ | refine Ks_p ?_ | refine Kl_p ?_ | refine blk_p ?_ | exact Kb_p | refine vGoto_i ?_ | refine vLabel_i ?_ | refine Ks_g ?_ | refine Kl_g ?_ | refine blk_g ?_ | refine jmp_g ?_ | refine jmp_n ?_ | refine jmp_r ?_ | refine nog_n ?_ | refine nog_r ?_ | refine blk_n ?_ | refine blk_r ?_ | refine blk_e ?_ | refine blk_o (by decide) ?_ | refine cp_t ?_ | refine cp_f ?_
      | ((with_reducible apply vCond_x); (focus (simp only [lv, E1, E2, E5, ET, T, mvB, bxB, sxB, rxB, fwd, fwds, inv, mOk, EB, Int.reduceToNat, ↓reduceIte, reduceCtorEq, Nat.reduceLT, Nat.reduceEqDiff, Nat.reduceAdd, Nat.reduceMul, Nat.reduceLeDiff, Nat.reduceDiv, Nat.reduceMod, Nat.reduceSub, Nat.reduceBEq, DBE2, Int.reduceToNat]; with_reducible first | exact Eq.refl (bo true) | exact Eq.refl (bo false))))
      | ((with_reducible refine And.intro ?_ ?_); (focus (try omega)))
    all_goals omega
/-- Some bytes as a text. -/
def readText (n : Int) (xs : List Int) : RR (List Int) := if n ≤ xs.length then (if (dec (xs.take n.toNat)).2.2 = 0 then .ok (dec (xs.take n.toNat)).1 (xs.drop n.toNat) else .bad (dec (xs.take n.toNat)).2.2) else .bad 20
def readEnd (xs : List Int) : RR Unit := if xs = [] then .ok () xs else .bad 50
abbrev slr (l : List Int) : X := sl (rn l)
set_option maxRecDepth 10000 in
set_option maxHeartbeats 4000000 in
theorem rtext_ok (xs : List Int) (hb : Bytes xs) (hl : xs.length ≤ 30000000000000) (n : Int) (h0 : 0 ≤ n) : CallB Tryz.prog 68 [(127, rdr xs)] [r0, i64 n] (outR (readText n xs) slr) := by
  have hb' : Bytes (xs.take n.toNat) := hb.take _
  have hl' : (xs.take n.toNat).length ≤ 30000000000000 := by rw [List.length_take]; omega
  by_cases h : n ≤ xs.length
  · by_cases h2 : (dec (xs.take n.toNat)).2.2 = 0
    · rw [show readText n xs = .ok (dec (xs.take n.toNat)).1 (xs.drop n.toNat) by rw [readText, if_pos h, if_pos h2]]
      show CallB _ _ _ _ (.ret (sl (rn (dec (xs.take n.toNat)).1)) (rbox (xs.drop n.toNat)))
      refine fn_okB' T_ok (orc_ok _) mixed Tryz.func68 rfl (by kernel_rfl) (lv [[0, 1], [0, 5, 7], [0, 5, 7, 17], [0, 5], [0, 4]]) 21 rfl (by simp) (by simp [outR, Out.ok, X.all, PX.all, TV.isV, TV.lent]) ?_
      simp only [lentL, argsG, Nat.zero_add, Nat.reduceAdd, List.cons_append, List.nil_append]
      repeat' first
        | ((first
            | ((with_reducible refine vR_cons (by decide) ?_); generalize hk : KtR _ _ _ _ _ _ _ _ _ _ = k)
            | ((first
            | with_reducible refine vOps_cons' ?_
            | ((with_reducible apply orc_bj); (focus (exact rk (by omega) n h0; done)); (all_goals intro hb))
            | ((with_reducible refine Or.inr ?_); (with_reducible apply orc_bj); (focus (exact rk (by omega) n h0; done)); (all_goals intro hb))
            | ((with_reducible apply orc_i); (focus (exact decode_ok _ hb' hl'; done)))) <;> generalize hk : Kt _ _ _ _ _ _ _ _ _ = k)) <;> (simp only [Tryz.f68, lv, E1, E2, E5, ET, T, mvB, bxB, sxB, rxB, fwd, fwds, inv, mOk, EB, Int.reduceToNat, ↓reduceIte, reduceCtorEq, Nat.reduceLT, Nat.reduceEqDiff, Nat.reduceAdd, Nat.reduceMul, Nat.reduceLeDiff, Nat.reduceDiv, Nat.reduceMod, Nat.reduceSub, Nat.reduceBEq, DBE2, Int.reduceToNat]; (try simp (disch := omega) only [wrap_in, Int.toNat_natCast, tv_rn, tv_bst]); subst hk))
        | with_reducible first | refine Kt_p ?_ | refine Kt_i (by kernel_rfl) ?_ | refine Kr_f (by kernel_rfl) ?_
        | (with_reducible refine Kr_t ?_; simp only [List.length_append, List.length_cons, List.length_nil, Nat.reduceAdd, Nat.reduceSub, List.drop_succ_cons, List.drop_zero])
        | with_reducible first | refine vR_nil ?_ | refine KtR_i (by kernel_rfl) ?_ | refine KrR_i (by kernel_rfl) ?_ | refine vR_skip (by decide) ?_
        | ((with_reducible refine vB_i ?_ ?_) <;> intro _ <;> (first | (exfalso; omega) | (exact absurd trivial ‹¬True›) | (try dsimp only [])))
        | ((with_reducible refine vOps_nil' ?_); refine Kr_i (by kernel_rfl) ?_; generalize hk : plain _ _ = G; simp only [lv, E3, E2, E5, rawX, deadX, EB, ↓reduceIte, reduceCtorEq, Nat.reduceLT, Nat.reduceEqDiff, Nat.reduceAdd, Nat.reduceMul, Nat.reduceLeDiff, Nat.reduceDiv, Nat.reduceMod, Nat.reduceSub, Nat.reduceBEq, DBE2, Int.reduceToNat] at hk; subst hk)
        | with_reducible refine vSeq_i ?_
        | with_reducible first | refine vRegion_i (by kernel_rfl) ?_ | refine Kv_i ?_
        | ((with_reducible apply vStrK_i); (focus (rfl; done)))
        | ((with_reducible refine imp_i ?_); intro _)
        | with_reducible first | refine Ks_n ?_ | refine Ks_r ?_ | refine Ks_e ?_ | refine Kl_e ?_ | refine Kx_n ?_ | refine Kl_r ?_ | refine vRet_i ?_ | refine vSkip_i ?_ | refine vExit_i ?_ | refine vBlock_i ?_ | refine Ks_p ?_ | refine Kl_p ?_ | refine blk_p ?_ | exact Kb_p | refine vGoto_i ?_ | refine vLabel_i ?_ | refine Ks_g ?_ | refine Kl_g ?_ | refine blk_g ?_ | refine jmp_g ?_ | refine jmp_n ?_ | refine jmp_r ?_ | refine nog_n ?_ | refine nog_r ?_ | refine blk_n ?_ | refine blk_r ?_ | refine blk_e ?_ | refine blk_o (by decide) ?_ | refine cp_t ?_ | refine cp_f ?_
        | ((with_reducible apply vCond_x); (focus (simp only [lv, E1, E2, E5, ET, T, mvB, bxB, sxB, rxB, fwd, fwds, inv, mOk, EB, Int.reduceToNat, ↓reduceIte, reduceCtorEq, Nat.reduceLT, Nat.reduceEqDiff, Nat.reduceAdd, Nat.reduceMul, Nat.reduceLeDiff, Nat.reduceDiv, Nat.reduceMod, Nat.reduceSub, Nat.reduceBEq, DBE2, Int.reduceToNat]; with_reducible first | exact Eq.refl (bo true) | exact Eq.refl (bo false))))
        | ((with_reducible refine And.intro ?_ ?_); (focus (try omega)))
      all_goals first | (exfalso; omega) | skip
      first | refine Kb_r ?_ | refine Kb_n ?_
      simp only [Tryz.f68, E4, E3, E2, E5, rawX, deadX, ET, T, EB, ↓reduceIte, reduceCtorEq, Nat.reduceLT, Nat.reduceEqDiff, Nat.reduceAdd, Nat.reduceMul, Nat.reduceLeDiff, Nat.reduceDiv, Nat.reduceMod, Nat.reduceSub, Nat.reduceBEq, DBE2, Int.reduceToNat]
      generalize hW : List.contains (wrs _) 0 = b
      obtain rfl : b = false := hW.symm.trans (by kernel_rfl)
      simp only [E4, E3, E2, E5, rawX, deadX, ET, T, EB, ↓reduceIte, reduceCtorEq, Nat.reduceLT, Nat.reduceEqDiff, Nat.reduceAdd, Nat.reduceMul, Nat.reduceLeDiff, Nat.reduceDiv, Nat.reduceMod, Nat.reduceSub, Nat.reduceBEq, DBE2, Int.reduceToNat]
    · rw [show readText n xs = .bad (dec (xs.take n.toNat)).2.2 by rw [readText, if_pos h, if_neg h2]]
      show CallB _ _ _ _ (.pan (errno (dec (xs.take n.toNat)).2.2))
      refine fn_okB' T_ok (orc_ok _) mixed Tryz.func68 rfl (by kernel_rfl) (lv [[0, 1], [0, 5, 7], [0, 5, 7, 17], [0, 5], [0, 4]]) 21 rfl (by simp) trivial ?_
      simp only [lentL, argsG, Nat.zero_add, Nat.reduceAdd, List.cons_append, List.nil_append]
      repeat' first
        | ((first
            | ((with_reducible refine vR_cons (by decide) ?_); generalize hk : KtR _ _ _ _ _ _ _ _ _ _ = k)
            | ((first
            | with_reducible refine vOps_cons' ?_
            | ((with_reducible apply orc_bj); (focus (exact rk (by omega) n h0; done)); (all_goals intro hb))
            | ((with_reducible refine Or.inr ?_); (with_reducible apply orc_bj); (focus (exact rk (by omega) n h0; done)); (all_goals intro hb))
            | ((with_reducible apply orc_i); (focus (exact decode_ok _ hb' hl'; done)))) <;> generalize hk : Kt _ _ _ _ _ _ _ _ _ = k)) <;> (simp only [Tryz.f68, lv, E1, E2, E5, ET, T, mvB, bxB, sxB, rxB, fwd, fwds, inv, mOk, EB, Int.reduceToNat, ↓reduceIte, reduceCtorEq, Nat.reduceLT, Nat.reduceEqDiff, Nat.reduceAdd, Nat.reduceMul, Nat.reduceLeDiff, Nat.reduceDiv, Nat.reduceMod, Nat.reduceSub, Nat.reduceBEq, DBE2, Int.reduceToNat]; (try simp (disch := omega) only [wrap_in, Int.toNat_natCast, tv_rn, tv_bst]); subst hk))
        | with_reducible first | refine Kt_p ?_ | refine Kt_i (by kernel_rfl) ?_ | refine Kr_f (by kernel_rfl) ?_
        | (with_reducible refine Kr_t ?_; simp only [List.length_append, List.length_cons, List.length_nil, Nat.reduceAdd, Nat.reduceSub, List.drop_succ_cons, List.drop_zero])
        | with_reducible first | refine vR_nil ?_ | refine KtR_i (by kernel_rfl) ?_ | refine KrR_i (by kernel_rfl) ?_ | refine vR_skip (by decide) ?_
        | ((with_reducible refine vB_i ?_ ?_) <;> intro _ <;> (first | (exfalso; omega) | (exact absurd trivial ‹¬True›) | (try dsimp only [])))
        | ((with_reducible refine vOps_nil' ?_); refine Kr_i (by kernel_rfl) ?_; generalize hk : plain _ _ = G; simp only [lv, E3, E2, E5, rawX, deadX, EB, ↓reduceIte, reduceCtorEq, Nat.reduceLT, Nat.reduceEqDiff, Nat.reduceAdd, Nat.reduceMul, Nat.reduceLeDiff, Nat.reduceDiv, Nat.reduceMod, Nat.reduceSub, Nat.reduceBEq, DBE2, Int.reduceToNat] at hk; subst hk)
        | with_reducible refine vSeq_i ?_
        | with_reducible first | refine vRegion_i (by kernel_rfl) ?_ | refine Kv_i ?_
        | ((with_reducible apply vStrK_i); (focus (rfl; done)))
        | ((with_reducible refine imp_i ?_); intro _)
        | with_reducible first | refine Ks_n ?_ | refine Ks_r ?_ | refine Ks_e ?_ | refine Kl_e ?_ | refine Kx_n ?_ | refine Kl_r ?_ | refine vRet_i ?_ | refine vSkip_i ?_ | refine vExit_i ?_ | refine vBlock_i ?_ | refine Ks_p ?_ | refine Kl_p ?_ | refine blk_p ?_ | exact Kb_p | refine vGoto_i ?_ | refine vLabel_i ?_ | refine Ks_g ?_ | refine Kl_g ?_ | refine blk_g ?_ | refine jmp_g ?_ | refine jmp_n ?_ | refine jmp_r ?_ | refine nog_n ?_ | refine nog_r ?_ | refine blk_n ?_ | refine blk_r ?_ | refine blk_e ?_ | refine blk_o (by decide) ?_ | refine cp_t ?_ | refine cp_f ?_
        | ((with_reducible apply vCond_x); (focus (simp only [lv, E1, E2, E5, ET, T, mvB, bxB, sxB, rxB, fwd, fwds, inv, mOk, EB, Int.reduceToNat, ↓reduceIte, reduceCtorEq, Nat.reduceLT, Nat.reduceEqDiff, Nat.reduceAdd, Nat.reduceMul, Nat.reduceLeDiff, Nat.reduceDiv, Nat.reduceMod, Nat.reduceSub, Nat.reduceBEq, DBE2, Int.reduceToNat]; with_reducible first | exact Eq.refl (bo true) | exact Eq.refl (bo false))))
        | ((with_reducible refine And.intro ?_ ?_); (focus (try omega)))
      all_goals omega
  · rw [show readText n xs = .bad 20 from if_neg h]
    show CallB _ _ _ _ (.pan (errno 20))
    refine fn_okB' T_ok (orc_ok _) mixed Tryz.func68 rfl (by kernel_rfl) (lv [[0, 1], [0, 5, 7], [0, 5, 7, 17], [0, 5], [0, 4]]) 21 rfl (by simp) trivial ?_
    simp only [lentL, argsG, Nat.zero_add, Nat.reduceAdd, List.cons_append, List.nil_append]
    repeat' first
      | ((first
          | ((with_reducible refine vR_cons (by decide) ?_); generalize hk : KtR _ _ _ _ _ _ _ _ _ _ = k)
          | ((first
          | with_reducible refine vOps_cons' ?_
          | ((with_reducible apply orc_bj); (focus (exact rk (by omega) n h0; done)); (all_goals intro hb))
          | ((with_reducible refine Or.inr ?_); (with_reducible apply orc_bj); (focus (exact rk (by omega) n h0; done)); (all_goals intro hb))
          | ((with_reducible apply orc_i); (focus (exact decode_ok _ hb' hl'; done)))) <;> generalize hk : Kt _ _ _ _ _ _ _ _ _ = k)) <;> (simp only [Tryz.f68, lv, E1, E2, E5, ET, T, mvB, bxB, sxB, rxB, fwd, fwds, inv, mOk, EB, Int.reduceToNat, ↓reduceIte, reduceCtorEq, Nat.reduceLT, Nat.reduceEqDiff, Nat.reduceAdd, Nat.reduceMul, Nat.reduceLeDiff, Nat.reduceDiv, Nat.reduceMod, Nat.reduceSub, Nat.reduceBEq, DBE2, Int.reduceToNat]; (try simp (disch := omega) only [wrap_in, Int.toNat_natCast, tv_rn, tv_bst]); subst hk))
      | with_reducible first | refine Kt_p ?_ | refine Kt_i (by kernel_rfl) ?_ | refine Kr_f (by kernel_rfl) ?_
      | (with_reducible refine Kr_t ?_; simp only [List.length_append, List.length_cons, List.length_nil, Nat.reduceAdd, Nat.reduceSub, List.drop_succ_cons, List.drop_zero])
      | with_reducible first | refine vR_nil ?_ | refine KtR_i (by kernel_rfl) ?_ | refine KrR_i (by kernel_rfl) ?_ | refine vR_skip (by decide) ?_
      | ((with_reducible refine vB_i ?_ ?_) <;> intro _ <;> (first | (exfalso; omega) | (exact absurd trivial ‹¬True›) | (try dsimp only [])))
      | ((with_reducible refine vOps_nil' ?_); refine Kr_i (by kernel_rfl) ?_; generalize hk : plain _ _ = G; simp only [lv, E3, E2, E5, rawX, deadX, EB, ↓reduceIte, reduceCtorEq, Nat.reduceLT, Nat.reduceEqDiff, Nat.reduceAdd, Nat.reduceMul, Nat.reduceLeDiff, Nat.reduceDiv, Nat.reduceMod, Nat.reduceSub, Nat.reduceBEq, DBE2, Int.reduceToNat] at hk; subst hk)
      | with_reducible refine vSeq_i ?_
      | with_reducible first | refine vRegion_i (by kernel_rfl) ?_ | refine Kv_i ?_
      | ((with_reducible apply vStrK_i); (focus (rfl; done)))
      | ((with_reducible refine imp_i ?_); intro _)
      | with_reducible first | refine Ks_n ?_ | refine Ks_r ?_ | refine Ks_e ?_ | refine Kl_e ?_ | refine Kx_n ?_ | refine Kl_r ?_ | refine vRet_i ?_ | refine vSkip_i ?_ | refine vExit_i ?_ | refine vBlock_i ?_ | refine Ks_p ?_ | refine Kl_p ?_ | refine blk_p ?_ | exact Kb_p | refine vGoto_i ?_ | refine vLabel_i ?_ | refine Ks_g ?_ | refine Kl_g ?_ | refine blk_g ?_ | refine jmp_g ?_ | refine jmp_n ?_ | refine jmp_r ?_ | refine nog_n ?_ | refine nog_r ?_ | refine blk_n ?_ | refine blk_r ?_ | refine blk_e ?_ | refine blk_o (by decide) ?_ | refine cp_t ?_ | refine cp_f ?_
      | ((with_reducible apply vCond_x); (focus (simp only [lv, E1, E2, E5, ET, T, mvB, bxB, sxB, rxB, fwd, fwds, inv, mOk, EB, Int.reduceToNat, ↓reduceIte, reduceCtorEq, Nat.reduceLT, Nat.reduceEqDiff, Nat.reduceAdd, Nat.reduceMul, Nat.reduceLeDiff, Nat.reduceDiv, Nat.reduceMod, Nat.reduceSub, Nat.reduceBEq, DBE2, Int.reduceToNat]; with_reducible first | exact Eq.refl (bo true) | exact Eq.refl (bo false))))
      | ((with_reducible refine And.intro ?_ ?_); (focus (try omega)))
    all_goals omega
set_option maxRecDepth 10000 in
set_option maxHeartbeats 4000000 in
theorem rend_ok (xs : List Int) : CallB Tryz.prog 70 [(127, rdr xs)] [r0] (outR (readEnd xs) fun _ => .tup []) := by
  by_cases h : xs = []
  · rw [show readEnd xs = .ok () xs from if_pos h]
    show CallB _ _ _ _ (.ret (.tup []) (rbox xs))
    subst h
    refine fn_okB' T_ok (orc_ok _) mixed Tryz.func70 rfl (by kernel_rfl) (lv [[0, 7], [0]]) 9 rfl (by simp) (by simp [Out.ok, X.all, PX.all, TV.isV, TV.lent]) ?_
    simp only [lentL, argsG, Nat.zero_add, Nat.reduceAdd, List.cons_append, List.nil_append]
    repeat' first
      | ((first
          | ((with_reducible refine vR_cons (by decide) ?_); generalize hk : KtR _ _ _ _ _ _ _ _ _ _ = k)
          | ((first
          | with_reducible refine vOps_cons' ?_) <;> generalize hk : Kt _ _ _ _ _ _ _ _ _ = k)) <;> (simp only [Tryz.f70, lv, E1, E2, E5, ET, T, mvB, bxB, sxB, rxB, fwd, fwds, inv, mOk, EB, Int.reduceToNat, ↓reduceIte, reduceCtorEq, Nat.reduceLT, Nat.reduceEqDiff, Nat.reduceAdd, Nat.reduceMul, Nat.reduceLeDiff, Nat.reduceDiv, Nat.reduceMod, Nat.reduceSub, Nat.reduceBEq, DBE2, Int.reduceToNat]; (try simp (disch := omega) only [wrap_in, Int.toNat_natCast, tv_rn, tv_bst]); subst hk))
      | with_reducible first | refine Kt_p ?_ | refine Kt_i (by kernel_rfl) ?_ | refine Kr_f (by kernel_rfl) ?_
      | (with_reducible refine Kr_t ?_; simp only [List.length_append, List.length_cons, List.length_nil, Nat.reduceAdd, Nat.reduceSub, List.drop_succ_cons, List.drop_zero])
      | with_reducible first | refine vR_nil ?_ | refine KtR_i (by kernel_rfl) ?_ | refine KrR_i (by kernel_rfl) ?_ | refine vR_skip (by decide) ?_
      | ((with_reducible refine vB_i ?_ ?_) <;> intro _ <;> (first | (exfalso; omega) | (exact absurd trivial ‹¬True›) | (try dsimp only [])))
      | ((with_reducible refine vOps_nil' ?_); refine Kr_i (by kernel_rfl) ?_; generalize hk : plain _ _ = G; simp only [lv, E3, E2, E5, rawX, deadX, EB, ↓reduceIte, reduceCtorEq, Nat.reduceLT, Nat.reduceEqDiff, Nat.reduceAdd, Nat.reduceMul, Nat.reduceLeDiff, Nat.reduceDiv, Nat.reduceMod, Nat.reduceSub, Nat.reduceBEq, DBE2, Int.reduceToNat] at hk; subst hk)
      | with_reducible refine vSeq_i ?_
      | with_reducible first | refine vRegion_i (by kernel_rfl) ?_ | refine Kv_i ?_
      | ((with_reducible apply vStrK_i); (focus (rfl; done)))
      | ((with_reducible refine imp_i ?_); intro _)
      | with_reducible first | refine Ks_n ?_ | refine Ks_r ?_ | refine Ks_e ?_ | refine Kl_e ?_ | refine Kx_n ?_ | refine Kl_r ?_ | refine vRet_i ?_ | refine vSkip_i ?_ | refine vExit_i ?_ | refine vBlock_i ?_ | refine Ks_p ?_ | refine Kl_p ?_ | refine blk_p ?_ | exact Kb_p | refine vGoto_i ?_ | refine vLabel_i ?_ | refine Ks_g ?_ | refine Kl_g ?_ | refine blk_g ?_ | refine jmp_g ?_ | refine jmp_n ?_ | refine jmp_r ?_ | refine nog_n ?_ | refine nog_r ?_ | refine blk_n ?_ | refine blk_r ?_ | refine blk_e ?_ | refine blk_o (by decide) ?_ | refine cp_t ?_ | refine cp_f ?_
      | ((with_reducible apply vCond_x); (focus (simp only [lv, E1, E2, E5, ET, T, mvB, bxB, sxB, rxB, fwd, fwds, inv, mOk, EB, Int.reduceToNat, ↓reduceIte, reduceCtorEq, Nat.reduceLT, Nat.reduceEqDiff, Nat.reduceAdd, Nat.reduceMul, Nat.reduceLeDiff, Nat.reduceDiv, Nat.reduceMod, Nat.reduceSub, Nat.reduceBEq, DBE2, Int.reduceToNat]; with_reducible first | exact Eq.refl (bo true) | exact Eq.refl (bo false))))
      | ((with_reducible refine And.intro ?_ ?_); (focus (try omega)))
    all_goals trace_state
    first | refine Kb_r ?_ | refine Kb_n ?_
    simp only [Tryz.f70, E4, E3, E2, E5, rawX, deadX, ET, T, EB, ↓reduceIte, reduceCtorEq, Nat.reduceLT, Nat.reduceEqDiff, Nat.reduceAdd, Nat.reduceMul, Nat.reduceLeDiff, Nat.reduceDiv, Nat.reduceMod, Nat.reduceSub, Nat.reduceBEq, DBE2, Int.reduceToNat]
    generalize hW : List.contains (wrs _) 0 = b
    obtain rfl : b = false := hW.symm.trans (by kernel_rfl)
    simp only [E4, E3, E2, E5, rawX, deadX, ET, T, EB, ↓reduceIte, reduceCtorEq, Nat.reduceLT, Nat.reduceEqDiff, Nat.reduceAdd, Nat.reduceMul, Nat.reduceLeDiff, Nat.reduceDiv, Nat.reduceMod, Nat.reduceSub, Nat.reduceBEq, DBE2, Int.reduceToNat]
  · have hp : 0 < xs.length := by cases xs with | nil => exact absurd rfl h | cons _ _ => simp
    rw [show readEnd xs = .bad 50 from if_neg h]
    show CallB _ _ _ _ (.pan (errno 50))
    refine fn_okB' T_ok (orc_ok _) mixed Tryz.func70 rfl (by kernel_rfl) (lv [[0, 7], [0]]) 9 rfl (by simp) trivial ?_
    simp only [lentL, argsG, Nat.zero_add, Nat.reduceAdd, List.cons_append, List.nil_append]
    repeat' first
      | ((first
          | ((with_reducible refine vR_cons (by decide) ?_); generalize hk : KtR _ _ _ _ _ _ _ _ _ _ = k)
          | ((first
          | with_reducible refine vOps_cons' ?_) <;> generalize hk : Kt _ _ _ _ _ _ _ _ _ = k)) <;> (simp only [Tryz.f70, lv, E1, E2, E5, ET, T, mvB, bxB, sxB, rxB, fwd, fwds, inv, mOk, EB, Int.reduceToNat, ↓reduceIte, reduceCtorEq, Nat.reduceLT, Nat.reduceEqDiff, Nat.reduceAdd, Nat.reduceMul, Nat.reduceLeDiff, Nat.reduceDiv, Nat.reduceMod, Nat.reduceSub, Nat.reduceBEq, DBE2, Int.reduceToNat]; (try simp (disch := omega) only [wrap_in, Int.toNat_natCast, tv_rn, tv_bst]); subst hk))
      | with_reducible first | refine Kt_p ?_ | refine Kt_i (by kernel_rfl) ?_ | refine Kr_f (by kernel_rfl) ?_
      | (with_reducible refine Kr_t ?_; simp only [List.length_append, List.length_cons, List.length_nil, Nat.reduceAdd, Nat.reduceSub, List.drop_succ_cons, List.drop_zero])
      | with_reducible first | refine vR_nil ?_ | refine KtR_i (by kernel_rfl) ?_ | refine KrR_i (by kernel_rfl) ?_ | refine vR_skip (by decide) ?_
      | ((with_reducible refine vB_i ?_ ?_) <;> intro _ <;> (first | (exfalso; omega) | (exact absurd trivial ‹¬True›) | (try dsimp only [])))
      | ((with_reducible refine vOps_nil' ?_); refine Kr_i (by kernel_rfl) ?_; generalize hk : plain _ _ = G; simp only [lv, E3, E2, E5, rawX, deadX, EB, ↓reduceIte, reduceCtorEq, Nat.reduceLT, Nat.reduceEqDiff, Nat.reduceAdd, Nat.reduceMul, Nat.reduceLeDiff, Nat.reduceDiv, Nat.reduceMod, Nat.reduceSub, Nat.reduceBEq, DBE2, Int.reduceToNat] at hk; subst hk)
      | with_reducible refine vSeq_i ?_
      | with_reducible first | refine vRegion_i (by kernel_rfl) ?_ | refine Kv_i ?_
      | ((with_reducible apply vStrK_i); (focus (rfl; done)))
      | ((with_reducible refine imp_i ?_); intro _)
      | with_reducible first | refine Ks_n ?_ | refine Ks_r ?_ | refine Ks_e ?_ | refine Kl_e ?_ | refine Kx_n ?_ | refine Kl_r ?_ | refine vRet_i ?_ | refine vSkip_i ?_ | refine vExit_i ?_ | refine vBlock_i ?_ | refine Ks_p ?_ | refine Kl_p ?_ | refine blk_p ?_ | exact Kb_p | refine vGoto_i ?_ | refine vLabel_i ?_ | refine Ks_g ?_ | refine Kl_g ?_ | refine blk_g ?_ | refine jmp_g ?_ | refine jmp_n ?_ | refine jmp_r ?_ | refine nog_n ?_ | refine nog_r ?_ | refine blk_n ?_ | refine blk_r ?_ | refine blk_e ?_ | refine blk_o (by decide) ?_ | refine cp_t ?_ | refine cp_f ?_
      | ((with_reducible apply vCond_x); (focus (simp only [lv, E1, E2, E5, ET, T, mvB, bxB, sxB, rxB, fwd, fwds, inv, mOk, EB, Int.reduceToNat, ↓reduceIte, reduceCtorEq, Nat.reduceLT, Nat.reduceEqDiff, Nat.reduceAdd, Nat.reduceMul, Nat.reduceLeDiff, Nat.reduceDiv, Nat.reduceMod, Nat.reduceSub, Nat.reduceBEq, DBE2, Int.reduceToNat]; with_reducible first | exact Eq.refl (bo true) | exact Eq.refl (bo false))))
      | ((with_reducible refine And.intro ?_ ?_); (focus (try omega)))
    all_goals trace_state
end Go.Proofs.YtdpflafjfkooeaaGreatDoorG
namespace Go.Proofs.YtdpflafjfkooeaaGreatDoorG
open Go Go.RowKit Go.Proofs Go.Proofs.YtdpflafjfkooeaaGreatDoorG.Dec
set_option linter.unusedSimpArgs false
set_option linter.unusedVariables false
theorem orc_b3 {P : Program} {f bs args K} {c1 c2 : Prop} {i1 : Decidable c1} {i2 : Decidable c2} {o1 o2 o3 : Out} (h : CallB P f bs args (if c1 then (if c2 then o1 else o2) else o3)) (h1 : c1 → c2 → K o1) (h2 : c1 → ¬ c2 → K o2) (h3 : ¬ c1 → K o3) : (orc P).b f bs args K := by
  refine ⟨_, h, ?_⟩
  split
  · split
    · exact h1 ‹_› ‹_›
    · exact h2 ‹_› ‹_›
  · exact h3 ‹_›
theorem rnum3 (xs : List Int) (hb : Bytes xs) (hl : xs.length ≤ 30000000000000) : CallB Tryz.prog 67 [(127, rdr xs)] [r0] (if 4 ≤ xs.length then (if numR xs > 2147483647 then .pan (errno 50) else .ret (i64 (numR xs)) (rbox (xs.drop 4))) else .pan (errno 20)) := by
  have h := rnum_ok xs hb (by omega)
  unfold readNum at h
  split at h
  · rename_i h1
    rw [if_pos h1]
    split at h
    · rename_i h2; rw [if_pos h2]; exact h
    · rename_i h2; rw [if_neg h2]; exact h
  · rename_i h1; rw [if_neg h1]; exact h
theorem rtext3 (xs : List Int) (hb : Bytes xs) (hl : xs.length ≤ 30000000000000) (n : Int) (h0 : 0 ≤ n) : CallB Tryz.prog 68 [(127, rdr xs)] [r0, i64 n] (if n ≤ xs.length then (if (dec (xs.take n.toNat)).2.2 = 0 then .ret (slr (dec (xs.take n.toNat)).1) (rbox (xs.drop n.toNat)) else .pan (errno (dec (xs.take n.toNat)).2.2)) else .pan (errno 20)) := by
  have h := rtext_ok xs hb hl n h0
  unfold readText at h
  split at h
  · rename_i h1
    rw [if_pos h1]
    split at h
    · rename_i h2; rw [if_pos h2]; exact h
    · rename_i h2; rw [if_neg h2]; exact h
  · rename_i h1; rw [if_neg h1]; exact h
theorem outR_ok {α : Type} {r : RR α} {g : α → X} (h : ∀ a, (g a).all TV.isV = true) : (outR r g).ok 1 := by
  cases r with
  | ok a rest => exact ⟨h a, rfl, by simp [TV.lent]⟩
  | bad e => trivial
theorem Kb_pr {T rs args W} {α : Type} {r : RR α} {g : α → X} {e : Int} {G} (h : r = .bad e) : Kb T rs args W (outR r g) (.panic (errno e)) G := by subst h; rfl
theorem Kb_rr {T rs args W} {α : Type} {r : RR α} {g : α → X} {a : α} {rest : List Int} {G} (h : r = .ok a rest) (hk : Kb T rs args W (.ret (g a) (rbox rest)) .ret G) : Kb T rs args W (outR r g) .ret G := by subst h; exact hk
end Go.Proofs.YtdpflafjfkooeaaGreatDoorG
namespace Go.Proofs.YtdpflafjfkooeaaGreatDoorG
open Go Go.RowKit Go.Proofs Go.Proofs.YtdpflafjfkooeaaGreatDoorG.Dec
set_option linter.unusedSimpArgs false
set_option linter.unusedVariables false
theorem nt80 : Tryz.f78.ntmps = 14 := rfl
theorem rs80 : Tryz.f78.results = #[] := rfl
theorem nt50 : Tryz.f65.ntmps = 6 := rfl
theorem rs50 : Tryz.f65.results = #[.cell 2 36] := rfl
set_option maxHeartbeats 4000000 in
theorem caught_idle (p : Addr) (w : World) :
    CallsDIn Fence.wide 0 Tryz.prog 78 #[.pointer (some p)] .returning w fun e u' w' => e = .returned (.tuple #[]) ∧ u' = .returning ∧ w' = w := by
  refine callsDIn_of_wpSIn Tryz.func78 rfl trivial fun c₀ cs hu => ?_
  apply wpSIn_seq
  apply wpSIn_region
  simp [wpOpsSIn, go_sem, recoverD, hu, nt80, Exit.thenS]
  refine wpSIn_of_wpIn rfl ?_
  simp only [Array.replicate_succ, Array.replicate_zero, List.push_toArray, List.setIfInBounds_toArray, List.set, List.append_toArray, List.nil_append, List.cons_append, Array.setIfInBounds]
  gi_wp2
  cases c₀
  simp_all [bodyPostS, results, rs80]
/-- What catches: its named result's cell, and how it ends. -/
theorem caught_ret (k : Nat) (caps : Array Value) (w : World) (Q : World → Prop) (hk : ∀ vs w, (callFunc k vs).run Tryz.prog w = .ok (.enter k vs) w)
    (h : Calls Tryz.prog k caps (w.alloc (.cells #[.int .i64 0] 36)) fun e w' => e = .returned (.tuple #[]) ∧ w'.cell? ⟨w.heap.size, 0, none⟩ = some (.int .i64 0) ∧ w'.frozen? ⟨w.heap.size, 0, none⟩ = false ∧ Q w') :
    Calls Tryz.prog 65 #[.func (.func k) #[] caps] w fun e w' => e = .returned (.int .i64 0) ∧ ∃ w2, Q w2 ∧ w' = w2.setCell ⟨w.heap.size, 0, none⟩ (.int .i64 0) := by
  have hmf : ∀ (fn : Fn) (first cap : Array Value) (w : World), (Instr.makeFunc fn first cap).run Tryz.prog w = .ok (.func fn first cap) w := fun _ _ _ _ => rfl
  have h80 : ∀ vs w, (callFunc 78 vs).run Tryz.prog w = .ok (.enter 78 vs) w := callable_of Tryz.func78 (by kernel_rfl)
  refine (callsIn_wide (n := 0)).1 (callsIn_of_wp_defers (F := Fence.wide) (n := 0) Tryz.func65 rfl trivial ?_)
  simp only [nt50, List.size_toArray, List.length_cons, List.length_nil, Nat.reduceAdd, Nat.reduceSub, Array.replicate_succ, Array.replicate_zero, List.push_toArray, List.append_toArray, List.nil_append, List.cons_append]
  apply wpIn_seq
  apply wpIn_region
  simp [wpOpsIn, go_sem, Exit.then, hmf]
  apply wpIn_seq
  apply wpIn_region
  simp [wpOpsIn, go_sem, Exit.then, hmf]
  apply wpIn_seq
  apply wpIn_region
  simp [wpOpsIn, go_sem, Exit.then, hk]
  refine ⟨trivial, rfl, ((callsIn_wide (n := 0)).2 h).mono ?_⟩
  rintro _ w' ⟨rfl, hc, hz, hq⟩
  dsimp only
  apply wpIn_seq
  apply wpIn_region
  simp [wpOpsIn, go_sem, Exit.then, hc, hz]
  apply wpIn_ret
  refine leavesIn_cons (f := 78) (args := #[.pointer (some ⟨w.heap.size, 0, none⟩)]) (by simp) (fun h => nomatch h) (by simp [go_sem, h80]) (fun _ _ => trivial) ?_
  refine (caught_idle ⟨w.heap.size, 0, none⟩ _).mono ?_
  rintro e u' w'' ⟨rfl, rfl, rfl⟩
  simp [LeavesIn, settle, results, rs50, go_sem, hc]
  exact ⟨_, hq, rfl⟩
/-- But for the named result's cell. -/
structure But (b0 : Nat) (w2 w3 : World) : Prop where
  os : w3.os = w2.os
  tape : w3.tape = w2.tape
  output : w3.output = w2.output
  size : w3.heap.size = w2.heap.size
  blk : ∀ b, b ≠ b0 → w3.heap[b]? = w2.heap[b]?
theorem But.set (w : World) (b0 : Nat) (v : Value) : But b0 w (w.setCell ⟨b0, 0, none⟩ v) := ⟨rfl, rfl, rfl, by simp [World.setCell], fun b hb => Below.heap_setCell _ _ _ _ hb⟩
theorem But.trans {b0 : Nat} {w w1 w2 : World} (h : But b0 w w1) (k : But b0 w1 w2) : But b0 w w2 := ⟨k.os.trans h.os, k.tape.trans h.tape, k.output.trans h.output, k.size.trans h.size, fun b hb => (k.blk b hb).trans (h.blk b hb)⟩
theorem caught_fr {w w2 w3 : World} {ob : Obj} {o o' : Nat → Tag} (hf : Fr (w.alloc ob) w2 o o') (h3 : But w.heap.size w2 w3) : Fr w w3 o o' := by
  have hlt : ∀ b, b < w.heap.size → b < (w.alloc ob).heap.size := fun b hb => by simp only [World.size_alloc]; omega
  refine ⟨h3.os.trans hf.os, h3.tape.trans hf.tape, h3.output.trans hf.output, by have := hf.size; rw [h3.size]; simp only [World.size_alloc] at this; omega, fun b hb ho => ?_, fun b hb ho => ?_⟩
  · have := hf.keep b (hlt b hb) ho
    exact ⟨((h3.blk b (by omega)).trans this.1).trans (Below.heap_alloc _ _ _ hb), this.2⟩
  · obtain ⟨q1, q2⟩ := hf.bx b (hlt b hb) ho
    exact ⟨q1, ((Shp.of_eq (Below.heap_alloc _ _ _ hb)).trans q2).trans (Shp.of_eq (h3.blk b (by omega)))⟩
theorem caught_cell {w w2 : World} {o o' : Nat → Tag} {v : Value} (hf : Fr (w.alloc (.cells #[v] 36)) w2 o o') (ht : o w.heap.size = .other) : w2.cell? ⟨w.heap.size, 0, none⟩ = some v ∧ w2.frozen? ⟨w.heap.size, 0, none⟩ = false ∧ o' w.heap.size = .other := by
  have h := hf.keep w.heap.size (by simp only [World.size_alloc]; omega) (.inl ht)
  have h0 : w2.heap[w.heap.size]? = some (.cells #[v] 36 (0, 0)) := h.1.trans (World.alloc_heap_new w _)
  exact ⟨by simp [World.cell?, h0], by simp [World.frozen?, h0], h.2.trans ht⟩
abbrev lentA (hs : List Nat) : List X := hs.map fun j => .p (.one (.pr j 0))
section
variable {k : Nat} {bs : Boxes} {hs : List Nat} {w : World} {g : Gh}
end
theorem callable50 : ∀ vs w, (callFunc 65 vs).run Tryz.prog w = .ok (.enter 65 vs) w := callable_of Tryz.func65 (by kernel_rfl)
theorem all2_one {w : World} {g : Gh} {vs : List Value} {x : X} (h : All2 (XR w g) vs [x]) : ∃ v, vs = [v] ∧ XR w g v x := by
  cases vs with
  | nil => have := h.1; simp at this
  | cons v vs => cases vs with
    | nil => exact ⟨v, rfl, h.head⟩
    | cons v' vs => have := h.1; simp at this
end Go.Proofs.YtdpflafjfkooeaaGreatDoorG
namespace Go.Proofs.YtdpflafjfkooeaaGreatDoorG
open Go Go.RowKit Go.Proofs Go.Proofs.YtdpflafjfkooeaaGreatDoorG.Dec
set_option linter.unusedSimpArgs false
set_option linter.unusedVariables false
/-- Own rows among what a function gives, as values. -/
def rowsF (rows : Rows) : Nm → C
  | .row k => match rows[k]? with | some (ty, e, xs) => .row ty e xs | none => .none
  | _ => .none
theorem CallOk.frz {P : Program} {f : Nat} {args : List X} {res y : X} {rows : Rows} {fr : Bool} {hs : List Nat} (h : CallOk P f args res rows fr) (hx : endX (rowsF rows) res = some (y, hs)) (hy : y.all TV.res = true) : CallOk P f args y [] false :=
  ⟨h.callable, hy, fun h => (by cases h), fun w vs g hg hlt hgr hall => (h.calls w vs g hg hlt hgr hall).mono (by
    rintro e w' ⟨v, g', rfl, hf, ht, hv, hr⟩
    have r : Rel (rowsF rows) 0 { tmps := #[], defers := [] } w' g' := ⟨rfl, rfl, ht, hgr.keep fun q => (fun k => ⟨k.1, k.2.trans q⟩) (hf.keep 0 (hlt 0 (by rw [q]; simp)) (.inr q)), fun n => by
      cases n with
      | t i => trivial
      | box k => trivial
      | row k =>
        simp only [rowsF]
        cases hk : rows[k]? with
        | none => trivial
        | some x => exact hr k x.1 x.2.1 x.2.2 hk⟩
    exact ⟨v, g'.frz hs, rfl, hf.trans (Fr.frz _ _ _), (r.frz _).tags, (endX_rel r hx (fun _ h => h) hv).1, fun k ty e xs hk => by simp at hk⟩)⟩
/-- An operation's cells. -/
def Opn.cs (o : Opn) : List TV := [.v (.raw (.int .i64 o.kind)), .v (.raw (.int .i64 o.at_)), .v (.raw (.int .i64 o.to_)), .v (.sl 1 (rn o.text))]
end Go.Proofs.YtdpflafjfkooeaaGreatDoorG
namespace Go.Proofs.YtdpflafjfkooeaaGreatDoorG
open Go Go.RowKit Go.Proofs Go.Proofs.YtdpflafjfkooeaaGreatDoorG.Dec
set_option linter.unusedSimpArgs false
set_option linter.unusedVariables false
theorem numR_nn {xs : List Int} (h : Bytes xs) : 0 ≤ numR xs := by
  have b0 := rd_bd h 0; have b1 := rd_bd h 1; have b2 := rd_bd h 2; have b3 := rd_bd h 3
  unfold numR
  omega
/-- A change, read. -/
def readCh (xs : List Int) : RR Ch :=
  if xs.length < 4 then .bad 20 else if numR xs > 2147483647 then .bad 50
  else if xs.length < 8 then .bad 20 else if numR (xs.drop 4) > 2147483647 then .bad 50
  else if (xs.length : Int) < 8 + numR (xs.drop 4) then .bad 20
  else if (dec ((xs.drop 8).take (numR (xs.drop 4)).toNat)).2.2 ≠ 0 then .bad (dec ((xs.drop 8).take (numR (xs.drop 4)).toNat)).2.2
  else if (xs.length : Int) < 12 + numR (xs.drop 4) then .bad 20
  else if numR (xs.drop (8 + (numR (xs.drop 4)).toNat)) > 2147483647 then .bad 50
  else if (xs.length : Int) < 12 + numR (xs.drop 4) + numR (xs.drop (8 + (numR (xs.drop 4)).toNat)) then .bad 20
  else if (dec ((xs.drop (8 + (numR (xs.drop 4)).toNat + 4)).take (numR (xs.drop (8 + (numR (xs.drop 4)).toNat))).toNat)).2.2 ≠ 0 then .bad (dec ((xs.drop (8 + (numR (xs.drop 4)).toNat + 4)).take (numR (xs.drop (8 + (numR (xs.drop 4)).toNat))).toNat)).2.2
  else .ok ⟨numR xs, (dec ((xs.drop 8).take (numR (xs.drop 4)).toNat)).1, (dec ((xs.drop (8 + (numR (xs.drop 4)).toNat + 4)).take (numR (xs.drop (8 + (numR (xs.drop 4)).toNat))).toNat)).1⟩ (xs.drop (8 + (numR (xs.drop 4)).toNat + 4 + (numR (xs.drop (8 + (numR (xs.drop 4)).toNat))).toNat))
def RR.pre (acc : List Ch) : RR (List Ch) → RR (List Ch)
  | .ok l r => .ok (acc ++ l) r
  | .bad e => .bad e
def readN : Nat → List Int → RR (List Ch)
  | 0, xs => .ok [] xs
  | n + 1, xs => match readCh xs with
    | .ok c r => (readN n r).pre [c]
    | .bad e => .bad e
def readChs (xs : List Int) : RR (List Ch) := if xs.length < 1 then .bad 20 else readN (rd xs 0).toNat (xs.drop 1)
theorem RR.pre_pre (a b : List Ch) (r : RR (List Ch)) : (r.pre b).pre a = r.pre (a ++ b) := by cases r <;> simp [RR.pre]
theorem RR.pre_nil (r : RR (List Ch)) : r.pre [] = r := by cases r <;> simp [RR.pre]
structure ChI (n : Nat) (xs : List Int) (s : Nat × List Ch × List Int) : Prop where
  le : s.1 ≤ n
  bytes : Bytes s.2.2
  len : s.2.2.length ≤ 30000000000000
  cnt : s.2.1.length = s.1
  eq : readN n xs = (readN (n - s.1) s.2.2).pre s.2.1
theorem ChI.bad {n xs s e} (h : ChI n xs s) (hlt : s.1 < n) (hb : readCh s.2.2 = .bad e) : readN n xs = .bad e := by
  rw [h.eq, show n - s.1 = (n - s.1 - 1) + 1 by omega, readN, hb]; rfl
theorem ChI.next {n xs s c r} (h : ChI n xs s) (hlt : s.1 < n) (hb : readCh s.2.2 = .ok c r) (hB : Bytes r) (hl : r.length ≤ s.2.2.length) : ChI n xs (s.1 + 1, s.2.1 ++ [c], r) :=
  ⟨by simp only []; omega, hB, Nat.le_trans hl h.len, by simp [h.cnt], by rw [h.eq, show n - s.1 = (n - (s.1 + 1)) + 1 by omega, readN, hb]; simp only [RR.pre_pre]⟩
theorem ChI.stop {n xs s} (h : ChI n xs s) (hlt : ¬ s.1 < n) : readN n xs = .ok s.2.1 s.2.2 := by
  rw [h.eq, show n - s.1 = 0 from by omega, readN]; simp [RR.pre]
theorem DBE6 : type_of% (And.intro @List.length_map.{0,0} (And.intro @List.length_take.{0} (And.intro @List.length_drop.{0} (And.intro @bs_len (And.intro @rn_len (And.intro @cut_bs (And.intro @cut_bsd (And.intro @Int.sub_zero (And.intro @Int.toNat_natCast (And.intro @Int.natCast_zero (And.intro @chs_len (And.intro @chs_cnt @List.length_append.{0})))))))))))) := ⟨@List.length_map.{0,0}, @List.length_take.{0}, @List.length_drop.{0}, @bs_len, @rn_len, @cut_bs, @cut_bsd, @Int.sub_zero, @Int.toNat_natCast, @Int.natCast_zero, @chs_len, @chs_cnt, @List.length_append.{0}⟩
set_option maxRecDepth 20000 in
set_option maxHeartbeats 16000000 in
theorem rchs_ok (xs : List Int) (hB : Bytes xs) (hl : xs.length ≤ 30000000000000) : CallB Tryz.prog 69 [(127, rdr xs)] [r0] (outR (readChs xs) fun l => sln 3 (chs l)) := by
  have b0 := rd_bd hB 0
  refine fn_okB' T_ok (orc_ok _) mixed Tryz.func69 rfl (by kernel_rfl) (lv [[0], [0, 3], [0, 3, 8, 9], [0, 3, 8, 9, 10], [0, 3, 4, 8, 9], [0, 3, 4, 8, 9], [0, 3, 4, 8, 9], [0, 3, 8, 9], [0, 3, 8, 9], [0, 2]]) 30 rfl (by simp) (outR_ok fun a => by simp [X.all, PX.all, TV.isV]) ?_
  simp only [lentL, argsG, Nat.zero_add, Nat.reduceAdd, List.cons_append, List.nil_append]
  repeat' first
    | ((first
        | ((with_reducible refine vR_cons (by decide) ?_); generalize hk : KtR _ _ _ _ _ _ _ _ _ _ = k)
        | ((first
        | with_reducible refine vOps_cons' ?_
        | ((with_reducible apply orc_bj); (focus (exact rk (by omega) _ (by omega); done)); (all_goals intro hb))
        | ((with_reducible refine Or.inr ?_); (with_reducible apply orc_bj); (focus (exact rk (by omega) _ (by omega); done)); (all_goals intro hb))) <;> generalize hk : Kt _ _ _ _ _ _ _ _ _ = k)) <;> (simp only [Tryz.f69, lv, E1, E2, E5, ET, T, mvB, bxB, sxB, rxB, fwd, fwds, inv, mOk, EB, simprocAttr, DBE6, ← chs_snoc]; (try simp (disch := omega) only [wrap_in, Int.toNat_natCast, tv_rn, tv_bst]); subst hk))
    | with_reducible first | refine Kt_p ?_ | refine Kt_i (by kernel_rfl) ?_ | refine Kr_f (by kernel_rfl) ?_
    | (with_reducible refine Kr_t ?_; simp only [List.length_append, List.length_cons, List.length_nil, Nat.reduceAdd, Nat.reduceSub, List.drop_succ_cons, List.drop_zero])
    | with_reducible first | refine vR_nil ?_ | refine KtR_i (by kernel_rfl) ?_ | refine KrR_i (by kernel_rfl) ?_ | refine vR_skip (by decide) ?_
    | ((with_reducible refine vB_i ?_ ?_) <;> intro _ <;> (first | (exfalso; omega) | (exact absurd trivial ‹¬True›) | (try dsimp only [])))
    | ((with_reducible refine vOps_nil' ?_); refine Kr_i (by kernel_rfl) ?_; generalize hk : plain _ _ = G; simp only [lv, E3, E2, E5, rawX, deadX, EB, simprocAttr, DBE6, ← chs_snoc] at hk; subst hk)
    | with_reducible refine vSeq_i ?_
    | with_reducible first | refine vRegion_i (by kernel_rfl) ?_ | refine Kv_i ?_
    | ((with_reducible apply vStrK_i); (focus (rfl; done)))
    | ((with_reducible refine imp_i ?_); intro _)
    | with_reducible first | refine Ks_n ?_ | refine Ks_r ?_ | refine Ks_e ?_ | refine Kl_e ?_ | refine Kx_n ?_ | refine Kl_r ?_ | refine vRet_i ?_ | refine vSkip_i ?_ | refine vExit_i ?_ | refine vBlock_i ?_ | refine Ks_p ?_ | refine Kl_p ?_ | refine blk_p ?_ | exact Kb_p | refine vGoto_i ?_ | refine vLabel_i ?_ | refine Ks_g ?_ | refine Kl_g ?_ | refine blk_g ?_ | refine jmp_g ?_ | refine jmp_n ?_ | refine jmp_r ?_ | refine nog_n ?_ | refine nog_r ?_ | refine blk_n ?_ | refine blk_r ?_ | refine blk_e ?_ | refine blk_o (by decide) ?_ | refine cp_t ?_ | refine cp_f ?_
    | ((with_reducible apply vCond_x); (focus (simp only [lv, E1, E2, E5, ET, T, mvB, bxB, sxB, rxB, fwd, fwds, inv, mOk, EB, simprocAttr, DBE6, ← chs_snoc]; with_reducible first | exact Eq.refl (bo true) | exact Eq.refl (bo false))))
    | ((with_reducible refine And.intro ?_ ?_); (focus (try omega)))
  · have en : ((rd xs 0).toNat : Int) = rd xs 0 := by omega
    have e0 : readChs xs = readN (rd xs 0).toNat (xs.drop 1) := if_neg (by omega)
    have hI0 : ChI (rd xs 0).toNat (xs.drop 1) (0, [], xs.drop 1) := ⟨by omega, hB.drop 1, by simp only [List.length_drop]; omega, rfl, by simp [RR.pre_nil]⟩
    refine vLoop_s (fun s : Nat × List Ch × List Int => [(.t 0, .t r0), (.t 3, .t (.p (.one (.sr 1)))), (.t 8, .t (.p (.one (.v (.raw (.int .u8 (rd xs 0))))))), (.t 9, .t (.p (.one (.v (.raw (.int .u8 (s.1 : Int))))))), (.box 0, .box 127 (rdr s.2.2)), (.row 1, .row 47 3 (chs s.2.1))]) (ChI (rd xs 0).toNat (xs.drop 1)) (fun s => (rd xs 0).toNat - s.1) (0, [], xs.drop 1) hI0 rfl ?_
    rintro ⟨k, acc, r⟩ hI
    have h1 : k ≤ (rd xs 0).toNat := hI.le
    have hR : Bytes r := hI.bytes
    have hL : r.length ≤ 30000000000000 := hI.len
    have hC : acc.length = k := hI.cnt
    have n1 := numR_nn (hR.drop 4)
    have n2 := numR_nn (hR.drop (8 + (numR (r.drop 4)).toNat))
    simp only [] at *
    repeat' first
      | ((first
          | ((with_reducible refine vR_cons (by decide) ?_); generalize hk : KtR _ _ _ _ _ _ _ _ _ _ = k)
          | ((first
          | with_reducible refine vOps_cons' ?_
          | ((with_reducible apply orc_b3); (focus (exact rnum3 _ (by repeat (first | exact hR | apply Bytes.drop | apply Bytes.take)) (by (try simp only [List.length_drop, List.length_take]); omega); done)); (all_goals intros))
          | ((with_reducible refine Or.inr ?_); (with_reducible apply orc_b3); (focus (exact rnum3 _ (by repeat (first | exact hR | apply Bytes.drop | apply Bytes.take)) (by (try simp only [List.length_drop, List.length_take]); omega); done)); (all_goals intros))
          | ((with_reducible apply orc_b3); (focus (exact rtext3 _ (by repeat (first | exact hR | apply Bytes.drop | apply Bytes.take)) (by (try simp only [List.length_drop, List.length_take]); omega) _ (by first | omega | exact numR_nn (by repeat (first | exact hR | apply Bytes.drop | apply Bytes.take))); done)); (all_goals intros))
          | ((with_reducible refine Or.inr ?_); (with_reducible apply orc_b3); (focus (exact rtext3 _ (by repeat (first | exact hR | apply Bytes.drop | apply Bytes.take)) (by (try simp only [List.length_drop, List.length_take]); omega) _ (by first | omega | exact numR_nn (by repeat (first | exact hR | apply Bytes.drop | apply Bytes.take))); done)); (all_goals intros))) <;> generalize hk : Kt _ _ _ _ _ _ _ _ _ = k)) <;> (simp only [Tryz.f69, lv, E1, E2, E5, ET, T, mvB, bxB, sxB, rxB, fwd, fwds, inv, mOk, EB, simprocAttr, DBE6, ← chs_snoc]; (try simp (disch := omega) only [wrap_in, Int.toNat_natCast, tv_rn, tv_bst]); subst hk))
      | with_reducible first | refine Kt_p ?_ | refine Kt_i (by kernel_rfl) ?_ | refine Kr_f (by kernel_rfl) ?_
      | (with_reducible refine Kr_t ?_; simp only [List.length_append, List.length_cons, List.length_nil, Nat.reduceAdd, Nat.reduceSub, List.drop_succ_cons, List.drop_zero])
      | with_reducible first | refine vR_nil ?_ | refine KtR_i (by kernel_rfl) ?_ | refine KrR_i (by kernel_rfl) ?_ | refine vR_skip (by decide) ?_
      | ((with_reducible refine vB_i ?_ ?_) <;> intro _ <;> (first | (exfalso; omega) | (exact absurd trivial ‹¬True›) | (try dsimp only [])))
      | ((with_reducible refine vOps_nil' ?_); refine Kr_i (by kernel_rfl) ?_; generalize hk : plain _ _ = G; simp only [lv, E3, E2, E5, rawX, deadX, EB, simprocAttr, DBE6, ← chs_snoc] at hk; subst hk)
      | with_reducible refine vSeq_i ?_
      | with_reducible first | refine vRegion_i (by kernel_rfl) ?_ | refine Kv_i ?_
      | ((with_reducible apply vStrK_i); (focus (rfl; done)))
      | ((with_reducible refine imp_i ?_); intro _)
      | with_reducible first | refine Ks_n ?_ | refine Ks_r ?_ | refine Ks_e ?_ | refine Kl_e ?_ | refine Kx_n ?_ | refine Kl_r ?_ | refine vRet_i ?_ | refine vSkip_i ?_ | refine vExit_i ?_ | refine vBlock_i ?_ | refine Ks_p ?_ | refine Kl_p ?_ | refine blk_p ?_ | exact Kb_p | refine vGoto_i ?_ | refine vLabel_i ?_ | refine Ks_g ?_ | refine Kl_g ?_ | refine blk_g ?_ | refine jmp_g ?_ | refine jmp_n ?_ | refine jmp_r ?_ | refine nog_n ?_ | refine nog_r ?_ | refine blk_n ?_ | refine blk_r ?_ | refine blk_e ?_ | refine blk_o (by decide) ?_ | refine cp_t ?_ | refine cp_f ?_
      | ((with_reducible apply vCond_x); (focus (simp only [lv, E1, E2, E5, ET, T, mvB, bxB, sxB, rxB, fwd, fwds, inv, mOk, EB, simprocAttr, DBE6, ← chs_snoc]; with_reducible first | exact Eq.refl (bo true) | exact Eq.refl (bo false))))
      | ((with_reducible refine And.intro ?_ ?_); (focus (try omega)))
    all_goals try simp only [List.length_drop, List.length_take, List.drop_drop, Int.toNat_natCast, Nat.reduceAdd] at *
    all_goals try (simp only [cnt, List.length_append, List.length_cons, List.length_nil, chs_len] at *; omega)
    all_goals try
      ((refine Kb_pr ?_)
       rw [e0]
       refine hI.bad (by simp only []; omega) ?_
       show readCh r = .bad _
       unfold readCh
       (repeat' split) <;> first | (exfalso; omega) | rfl
       done)
    · have hn : readCh r = .ok ⟨numR r, (dec ((r.drop 8).take (numR (r.drop 4)).toNat)).1, (dec ((r.drop (8 + (numR (r.drop 4)).toNat + 4)).take (numR (r.drop (8 + (numR (r.drop 4)).toNat))).toNat)).1⟩ (r.drop (8 + (numR (r.drop 4)).toNat + 4 + (numR (r.drop (8 + (numR (r.drop 4)).toNat))).toNat)) := by
        unfold readCh
        (repeat' split) <;> first | (exfalso; omega) | rfl
      refine Kl_n ⟨_, hI.next (by simp only []; omega) hn (hR.drop _) (by simp only [List.length_drop]; omega), by simp only []; omega, ?_⟩
      simp only [chs_snoc, Int.natCast_add, Int.natCast_one]
      rw [u8in (by omega) (by omega)]
    · refine Kb_rr (a := acc) (rest := r) (by rw [e0]; exact hI.stop (by simp only []; omega)) ?_
      first | refine Kb_r ?_ | refine Kb_n ?_
      simp only [Tryz.f69, E4, E3, E2, E5, rawX, deadX, ET, T, EB, simprocAttr, DBE6, ← chs_snoc]
      generalize hW : List.contains (wrs _) 0 = b
      obtain rfl : b = false := hW.symm.trans (by kernel_rfl)
      simp only [E4, E3, E2, E5, rawX, deadX, ET, T, EB, simprocAttr, DBE6, ← chs_snoc]
  · exact Kb_pr (by unfold readChs; rw [if_pos (by omega)])
end Go.Proofs.YtdpflafjfkooeaaGreatDoorG
namespace Go.Proofs.YtdpflafjfkooeaaGreatDoorG
open Go Go.RowKit Go.Proofs Go.Proofs.YtdpflafjfkooeaaGreatDoorG.Dec
set_option linter.unusedSimpArgs false
set_option linter.unusedVariables false
/-- Bytes, of a bounded number. -/
structure BytN (n : Nat) (xs : List Int) : Prop where
  bytes : Bytes xs
  len : xs.length ≤ n
theorem BytN.drop {n : Nat} {xs : List Int} (h : BytN n xs) (k : Nat) : BytN n (xs.drop k) := ⟨h.bytes.drop k, by have := h.len; simp only [List.length_drop]; omega⟩
theorem num_rest {xs r : List Int} {c : Int} (h : readNum xs = .ok c r) : r = xs.drop 4 ∧ c = numR xs := by
  unfold readNum at h
  repeat' split at h
  all_goals cases h
  exact ⟨rfl, rfl⟩
theorem text_rest {xs r l : List Int} {n : Int} (h : readText n xs = .ok l r) : r = xs.drop n.toNat ∧ l = (dec (xs.take n.toNat)).1 ∧ n ≤ xs.length := by
  unfold readText at h
  repeat' split at h
  all_goals cases h
  exact ⟨rfl, rfl, ‹_›⟩
theorem num_good {n : Nat} {xs r : List Int} {c : Int} (h : readNum xs = .ok c r) (g : BytN n xs) : BytN n r := by rw [(num_rest h).1]; exact g.drop _
theorem num_nn {n : Nat} {xs r : List Int} {c : Int} (h : readNum xs = .ok c r) (g : BytN n xs) : 0 ≤ c := by rw [(num_rest h).2]; exact numR_nn g.bytes
theorem text_good {n : Nat} {xs r l : List Int} {k : Int} (h : readText k xs = .ok l r) (g : BytN n xs) : BytN n r := by rw [(text_rest h).1]; exact g.drop _
/-- A text within a bound. -/
structure TxtOk (n : Nat) (l : List Int) : Prop where
  len : l.length ≤ n
  run : R32s l
theorem gd_run {m : List Int} (h : Gd m) : R32s m := fun x hx => by
  have h1 := mt (size_zero_iff x).2 (h x hx)
  exact ⟨by omega, by omega⟩
theorem dec_txt {n : Nat} {l : List Int} (g : BytN n l) : TxtOk n (dec l).1 := by
  have hl := g.len
  rcases dec_split g.bytes with ⟨m, h1, h2, h3⟩ | ⟨j, _, h3⟩
  · rw [h3]
    have := forms_ge h1
    rw [h2] at this
    exact ⟨Nat.le_trans this hl, gd_run h1⟩
  · rw [h3]
    exact ⟨by simp, fun x hx => by simp at hx⟩
theorem BytN.take {n : Nat} {xs : List Int} (h : BytN n xs) (k : Nat) : BytN n (xs.take k) := ⟨h.bytes.take k, by have := h.len; simp only [List.length_take]; omega⟩
structure ChTxt (n : Nat) (c : Ch) : Prop where
  gone : TxtOk n c.gone
  came : TxtOk n c.came
theorem ch_rest {n : Nat} {xs r : List Int} {c : Ch} (h : readCh xs = .ok c r) (g : BytN n xs) : BytN n r ∧ ChTxt n c := by
  unfold readCh at h
  repeat' split at h
  all_goals cases h
  exact ⟨g.drop _, dec_txt ((g.drop _).take _), dec_txt ((g.drop _).take _)⟩
theorem n_rest {n : Nat} : ∀ {k : Nat} {xs r : List Int} {l : List Ch}, readN k xs = .ok l r → BytN n xs → BytN n r ∧ l.length = k ∧ ∀ c ∈ l, ChTxt n c
  | 0, xs, r, l, h, g => by
    simp only [readN] at h
    cases h
    exact ⟨g, rfl, fun c hc => by simp at hc⟩
  | k + 1, xs, r, l, h, g => by
    simp only [readN] at h
    split at h
    · rename_i c r1 h1
      obtain ⟨g1, t1⟩ := ch_rest h1 g
      cases h2 : readN k r1 with
      | bad e => rw [h2] at h; cases h
      | ok l2 r2 =>
        rw [h2] at h
        cases h
        obtain ⟨g2, e2, t2⟩ := n_rest h2 g1
        refine ⟨g2, by simp [e2, Nat.add_comm], fun c' hc => ?_⟩
        rcases List.mem_append.1 hc with hc | hc
        · simp at hc; subst hc; exact t1
        · exact t2 c' hc
    · cases h
theorem chs_rest {n : Nat} {xs r : List Int} {l : List Ch} (h : readChs xs = .ok l r) (g : BytN n xs) : BytN n r ∧ l.length ≤ 255 ∧ ∀ c ∈ l, ChTxt n c := by
  unfold readChs at h
  split at h
  · cases h
  · obtain ⟨h1, h2, h3⟩ := n_rest h (g.drop 1)
    have := rd_bd g.bytes 0
    exact ⟨h1, by omega, h3⟩
theorem chs_good {n : Nat} {xs r : List Int} {l : List Ch} (h : readChs xs = .ok l r) (g : BytN n xs) : BytN n r := (chs_rest h g).1
theorem rnumG (xs : List Int) (g : BytN 30000000000000 xs) : CallB Tryz.prog 67 [(127, rdr xs)] [r0] (outR (readNum xs) i64) := rnum_ok xs g.bytes (by have := g.len; omega)
theorem rchsG (xs : List Int) (g : BytN 30000000000000 xs) : CallB Tryz.prog 69 [(127, rdr xs)] [r0] (outR (readChs xs) fun l => sln 3 (chs l)) := rchs_ok xs g.bytes g.len
def RR.bind {α β : Type} (r : RR α) (f : α → List Int → RR β) : RR β := match r with
  | .ok a rest => f a rest
  | .bad e => .bad e
/-- A state, read. -/
def readSt (xs : List Int) : RR (Int × St) :=
  (readNum xs).bind fun c r => (readNum r).bind fun n r => (readText n r).bind fun t r => (readChs r).bind fun u r => (readChs r).bind fun v r => (readEnd r).bind fun _ r => .ok (c, ⟨t, u, v⟩) r
/-- A state's cells. -/
def St.cs (s : St) : List TV := [.v (.sl 1 (rn s.text)), .v (.sl 3 (chs s.undo)), .v (.sl 3 (chs s.redo))]
abbrev cbox (n : Int) : Nat × List TV := (3, [.v (.raw (.int .i64 n))])
abbrev pbox : Nat × List TV := (125, [.pr 3 0])
end Go.Proofs.YtdpflafjfkooeaaGreatDoorG
