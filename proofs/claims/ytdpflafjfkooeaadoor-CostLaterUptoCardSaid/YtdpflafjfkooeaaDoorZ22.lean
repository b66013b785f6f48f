/- YtdpflafjfkooeaaDoorZ22: a part of the proof, joined of its texts. -/
import Derived.Test.YtdpflafjfkooeaaDoorZ21
namespace Go.Proofs.YtdpflafjfkooeaaDoorG
open Go Go.RowKit Go.Proofs Go.Proofs.YtdpflafjfkooeaaDoorG.Dec
set_option linter.unusedSimpArgs false
set_option linter.unusedVariables false
theorem numR_nn {xs : List Int} (h : Bytes xs) : 0 ≤ numR xs := by
  have b0 := rd_bd h 0; have b1 := rd_bd h 1; have b2 := rd_bd h 2; have b3 := rd_bd h 3
  unfold numR
  omega
/-- A change, read. -/
def readCh (xs : List Int) : RR Ch :=
  if xs.length < 4 then .bad 20 else if numR xs > 2147483647 then .bad 50
  else if xs.length < 8 then .bad 20 else if numR (xs.drop 4) > 2147483647 then .bad 50
  else if (xs.length : Int) < 8 + numR (xs.drop 4) then .bad 20
  else if (dec ((xs.drop 8).take (numR (xs.drop 4)).toNat)).2.2 ≠ 0 then .bad (dec ((xs.drop 8).take (numR (xs.drop 4)).toNat)).2.2
  else if (xs.length : Int) < 12 + numR (xs.drop 4) then .bad 20
  else if numR (xs.drop (8 + (numR (xs.drop 4)).toNat)) > 2147483647 then .bad 50
  else if (xs.length : Int) < 12 + numR (xs.drop 4) + numR (xs.drop (8 + (numR (xs.drop 4)).toNat)) then .bad 20
  else if (dec ((xs.drop (8 + (numR (xs.drop 4)).toNat + 4)).take (numR (xs.drop (8 + (numR (xs.drop 4)).toNat))).toNat)).2.2 ≠ 0 then .bad (dec ((xs.drop (8 + (numR (xs.drop 4)).toNat + 4)).take (numR (xs.drop (8 + (numR (xs.drop 4)).toNat))).toNat)).2.2
  else .ok ⟨numR xs, (dec ((xs.drop 8).take (numR (xs.drop 4)).toNat)).1, (dec ((xs.drop (8 + (numR (xs.drop 4)).toNat + 4)).take (numR (xs.drop (8 + (numR (xs.drop 4)).toNat))).toNat)).1⟩ (xs.drop (8 + (numR (xs.drop 4)).toNat + 4 + (numR (xs.drop (8 + (numR (xs.drop 4)).toNat))).toNat))
def RR.pre (acc : List Ch) : RR (List Ch) → RR (List Ch)
  | .ok l r => .ok (acc ++ l) r
  | .bad e => .bad e
def readN : Nat → List Int → RR (List Ch)
  | 0, xs => .ok [] xs
  | n + 1, xs => match readCh xs with
    | .ok c r => (readN n r).pre [c]
    | .bad e => .bad e
def readChs (xs : List Int) : RR (List Ch) := if xs.length < 1 then .bad 20 else readN (rd xs 0).toNat (xs.drop 1)
theorem RR.pre_pre (a b : List Ch) (r : RR (List Ch)) : (r.pre b).pre a = r.pre (a ++ b) := by cases r <;> simp [RR.pre]
theorem RR.pre_nil (r : RR (List Ch)) : r.pre [] = r := by cases r <;> simp [RR.pre]
structure ChI (n : Nat) (xs : List Int) (s : Nat × List Ch × List Int) : Prop where
  le : s.1 ≤ n
  bytes : Bytes s.2.2
  len : s.2.2.length ≤ 30000000000000
  cnt : s.2.1.length = s.1
  eq : readN n xs = (readN (n - s.1) s.2.2).pre s.2.1
theorem ChI.bad {n xs s e} (h : ChI n xs s) (hlt : s.1 < n) (hb : readCh s.2.2 = .bad e) : readN n xs = .bad e := by
  rw [h.eq, show n - s.1 = (n - s.1 - 1) + 1 by omega, readN, hb]; rfl
theorem ChI.next {n xs s c r} (h : ChI n xs s) (hlt : s.1 < n) (hb : readCh s.2.2 = .ok c r) (hB : Bytes r) (hl : r.length ≤ s.2.2.length) : ChI n xs (s.1 + 1, s.2.1 ++ [c], r) :=
  ⟨by simp only []; omega, hB, Nat.le_trans hl h.len, by simp [h.cnt], by rw [h.eq, show n - s.1 = (n - (s.1 + 1)) + 1 by omega, readN, hb]; simp only [RR.pre_pre]⟩
theorem ChI.stop {n xs s} (h : ChI n xs s) (hlt : ¬ s.1 < n) : readN n xs = .ok s.2.1 s.2.2 := by
  rw [h.eq, show n - s.1 = 0 from by omega, readN]; simp [RR.pre]
set_option maxRecDepth 20000 in
set_option maxHeartbeats 16000000 in
theorem rchs_ok (xs : List Int) (hB : Bytes xs) (hl : xs.length ≤ 30000000000000) : CallB Tryd.prog 71 [(121, rdr xs)] [r0] (outR (readChs xs) fun l => sln 3 (chs l)) := by
  have b0 := rd_bd hB 0
  refine fn_okB' T_ok (orc_ok _) mixed Tryd.func71 rfl (by kernel_rfl) (lv [[0], [0, 3], [0, 3, 8, 9], [0, 3, 8, 9, 10], [0, 3, 4, 8, 9], [0, 3, 4, 8, 9], [0, 3, 4, 8, 9], [0, 3, 8, 9], [0, 3, 8, 9], [0, 2]]) 30 rfl (by simp) (outR_ok fun a => by simp [X.all, PX.all, TV.isV]) ?_
  simp only [lentL, argsG, Nat.zero_add, Nat.reduceAdd, List.cons_append, List.nil_append]
  repeat' first
    | ((first
        | ((with_reducible refine vR_cons (by decide) ?_); generalize hk : KtR _ _ _ _ _ _ _ _ _ _ = k)
        | ((first
        | with_reducible refine vOps_cons' ?_
        | ((with_reducible apply orc_bj); (focus (exact rk (by omega) _ (by omega); done)); (all_goals intro hb))) <;> generalize hk : Kt _ _ _ _ _ _ _ _ _ = k)) <;> (simp only [Tryd.f71, lv, E1, E2, E5, ET, T, orc_mv, noO_mv, mvB, orc_bx, noO_bx, bxB, orc_sx, noO_sx, sxB, fwd, fwds, inv, mOk, Int.toNat_natCast, Nat.div_one, Nat.mul_one, Int.reduceToNat, SB, List.not_mem_nil, ↓reduceIte, ne_eq, reduceCtorEq, Nat.reduceLT, Nat.reduceEqDiff, Nat.reduceAdd, Nat.reduceMul, Nat.reduceLeDiff, Nat.reduceDiv, Nat.reduceMod, Nat.reduceSub, Nat.reduceBEq, List.length_map, List.length_take, List.length_drop, bs_len, rn_len, cut_bs, cut_bsd, Int.sub_zero, Int.toNat_natCast, Int.reduceToNat, Int.natCast_zero, chs_len, chs_cnt, List.length_append, ← chs_snoc]; (try simp (disch := omega) only [wrap_in, Int.toNat_natCast, tv_rn, tv_bst]); subst hk))
    | with_reducible first | refine Kt_p ?_ | refine Kt_i (by kernel_rfl) ?_ | refine Kr_f (by kernel_rfl) ?_
    | (with_reducible refine Kr_t ?_; simp only [List.length_append, List.length_cons, List.length_nil, Nat.reduceAdd, Nat.reduceSub, List.drop_succ_cons, List.drop_zero])
    | with_reducible first | refine vR_nil ?_ | refine KtR_i (by kernel_rfl) ?_ | refine KrR_i (by kernel_rfl) ?_ | refine vR_skip (by decide) ?_
    | ((with_reducible refine vB_i ?_ ?_) <;> intro _ <;> (first | (exfalso; omega) | (exact absurd trivial ‹¬True›) | (try dsimp only [])))
    | ((with_reducible refine vOps_nil' ?_); refine Kr_i (by kernel_rfl) ?_; generalize hk : plain _ _ = G; simp only [lv, E3, E2, E5, rawX, deadX, SB, List.not_mem_nil, ↓reduceIte, ne_eq, reduceCtorEq, Nat.reduceLT, Nat.reduceEqDiff, Nat.reduceAdd, Nat.reduceMul, Nat.reduceLeDiff, Nat.reduceDiv, Nat.reduceMod, Nat.reduceSub, Nat.reduceBEq, List.length_map, List.length_take, List.length_drop, bs_len, rn_len, cut_bs, cut_bsd, Int.sub_zero, Int.toNat_natCast, Int.reduceToNat, Int.natCast_zero, chs_len, chs_cnt, List.length_append, ← chs_snoc] at hk; subst hk)
    | with_reducible refine vSeq_i ?_
    | with_reducible first | refine vRegion_i (by kernel_rfl) ?_ | refine Kv_i ?_
    | ((with_reducible apply vStrK_i); (focus (rfl; done)))
    | ((with_reducible refine imp_i ?_); intro _)
    | with_reducible first | refine Ks_n ?_ | refine Ks_r ?_ | refine Ks_e ?_ | refine Kl_e ?_ | refine Kx_n ?_ | refine Kl_r ?_ | refine vRet_i ?_ | refine vSkip_i ?_ | refine vExit_i ?_ | refine vBlock_i ?_ | refine Ks_p ?_ | refine Kl_p ?_ | refine blk_p ?_ | exact Kb_p | refine vGoto_i ?_ | refine vLabel_i ?_ | refine Ks_g ?_ | refine Kl_g ?_ | refine blk_g ?_ | refine jmp_g ?_ | refine jmp_n ?_ | refine jmp_r ?_ | refine nog_n ?_ | refine nog_r ?_ | refine blk_n ?_ | refine blk_r ?_ | refine blk_e ?_ | refine blk_o (by decide) ?_ | refine cp_t ?_ | refine cp_f ?_
    | ((with_reducible apply vCond_x); (focus (simp only [lv, E1, E2, E5, ET, T, orc_mv, noO_mv, mvB, orc_bx, noO_bx, bxB, orc_sx, noO_sx, sxB, fwd, fwds, inv, mOk, Int.toNat_natCast, Nat.div_one, Nat.mul_one, Int.reduceToNat, SB, List.not_mem_nil, ↓reduceIte, ne_eq, reduceCtorEq, Nat.reduceLT, Nat.reduceEqDiff, Nat.reduceAdd, Nat.reduceMul, Nat.reduceLeDiff, Nat.reduceDiv, Nat.reduceMod, Nat.reduceSub, Nat.reduceBEq, List.length_map, List.length_take, List.length_drop, bs_len, rn_len, cut_bs, cut_bsd, Int.sub_zero, Int.toNat_natCast, Int.reduceToNat, Int.natCast_zero, chs_len, chs_cnt, List.length_append, ← chs_snoc]; with_reducible first | exact Eq.refl (bo true) | exact Eq.refl (bo false))))
    | ((with_reducible refine And.intro ?_ ?_); (focus (try omega)))
  · have en : ((rd xs 0).toNat : Int) = rd xs 0 := by omega
    have e0 : readChs xs = readN (rd xs 0).toNat (xs.drop 1) := if_neg (by omega)
    have hI0 : ChI (rd xs 0).toNat (xs.drop 1) (0, [], xs.drop 1) := ⟨by omega, hB.drop 1, by simp only [List.length_drop]; omega, rfl, by simp [RR.pre_nil]⟩
    refine vLoop_s (fun s : Nat × List Ch × List Int => [(.t 0, .t r0), (.t 3, .t (.p (.one (.sr 1)))), (.t 8, .t (.p (.one (.v (.raw (.int .u8 (rd xs 0))))))), (.t 9, .t (.p (.one (.v (.raw (.int .u8 (s.1 : Int))))))), (.box 0, .box 121 (rdr s.2.2)), (.row 1, .row 64 3 (chs s.2.1))]) (ChI (rd xs 0).toNat (xs.drop 1)) (fun s => (rd xs 0).toNat - s.1) (0, [], xs.drop 1) hI0 rfl ?_
    rintro ⟨k, acc, r⟩ hI
    have h1 : k ≤ (rd xs 0).toNat := hI.le
    have hR : Bytes r := hI.bytes
    have hL : r.length ≤ 30000000000000 := hI.len
    have hC : acc.length = k := hI.cnt
    have n1 := numR_nn (hR.drop 4)
    have n2 := numR_nn (hR.drop (8 + (numR (r.drop 4)).toNat))
    simp only [] at *
    repeat' first
      | ((first
          | ((with_reducible refine vR_cons (by decide) ?_); generalize hk : KtR _ _ _ _ _ _ _ _ _ _ = k)
          | ((first
          | with_reducible refine vOps_cons' ?_
          | ((with_reducible apply orc_b3); (focus (exact rnum3 _ (by repeat (first | exact hR | apply Bytes.drop | apply Bytes.take)) (by (try simp only [List.length_drop, List.length_take]); omega); done)); (all_goals intros))
          | ((with_reducible apply orc_b3); (focus (exact rtext3 _ (by repeat (first | exact hR | apply Bytes.drop | apply Bytes.take)) (by (try simp only [List.length_drop, List.length_take]); omega) _ (by first | omega | exact numR_nn (by repeat (first | exact hR | apply Bytes.drop | apply Bytes.take))); done)); (all_goals intros))) <;> generalize hk : Kt _ _ _ _ _ _ _ _ _ = k)) <;> (simp only [Tryd.f71, lv, E1, E2, E5, ET, T, orc_mv, noO_mv, mvB, orc_bx, noO_bx, bxB, orc_sx, noO_sx, sxB, fwd, fwds, inv, mOk, Int.toNat_natCast, Nat.div_one, Nat.mul_one, Int.reduceToNat, SB, List.not_mem_nil, ↓reduceIte, ne_eq, reduceCtorEq, Nat.reduceLT, Nat.reduceEqDiff, Nat.reduceAdd, Nat.reduceMul, Nat.reduceLeDiff, Nat.reduceDiv, Nat.reduceMod, Nat.reduceSub, Nat.reduceBEq, List.length_map, List.length_take, List.length_drop, bs_len, rn_len, cut_bs, cut_bsd, Int.sub_zero, Int.toNat_natCast, Int.reduceToNat, Int.natCast_zero, chs_len, chs_cnt, List.length_append, ← chs_snoc]; (try simp (disch := omega) only [wrap_in, Int.toNat_natCast, tv_rn, tv_bst]); subst hk))
      | with_reducible first | refine Kt_p ?_ | refine Kt_i (by kernel_rfl) ?_ | refine Kr_f (by kernel_rfl) ?_
      | (with_reducible refine Kr_t ?_; simp only [List.length_append, List.length_cons, List.length_nil, Nat.reduceAdd, Nat.reduceSub, List.drop_succ_cons, List.drop_zero])
      | with_reducible first | refine vR_nil ?_ | refine KtR_i (by kernel_rfl) ?_ | refine KrR_i (by kernel_rfl) ?_ | refine vR_skip (by decide) ?_
      | ((with_reducible refine vB_i ?_ ?_) <;> intro _ <;> (first | (exfalso; omega) | (exact absurd trivial ‹¬True›) | (try dsimp only [])))
      | ((with_reducible refine vOps_nil' ?_); refine Kr_i (by kernel_rfl) ?_; generalize hk : plain _ _ = G; simp only [lv, E3, E2, E5, rawX, deadX, SB, List.not_mem_nil, ↓reduceIte, ne_eq, reduceCtorEq, Nat.reduceLT, Nat.reduceEqDiff, Nat.reduceAdd, Nat.reduceMul, Nat.reduceLeDiff, Nat.reduceDiv, Nat.reduceMod, Nat.reduceSub, Nat.reduceBEq, List.length_map, List.length_take, List.length_drop, bs_len, rn_len, cut_bs, cut_bsd, Int.sub_zero, Int.toNat_natCast, Int.reduceToNat, Int.natCast_zero, chs_len, chs_cnt, List.length_append, ← chs_snoc] at hk; subst hk)
      | with_reducible refine vSeq_i ?_
      | with_reducible first | refine vRegion_i (by kernel_rfl) ?_ | refine Kv_i ?_
      | ((with_reducible apply vStrK_i); (focus (rfl; done)))
      | ((with_reducible refine imp_i ?_); intro _)
      | with_reducible first | refine Ks_n ?_ | refine Ks_r ?_ | refine Ks_e ?_ | refine Kl_e ?_ | refine Kx_n ?_ | refine Kl_r ?_ | refine vRet_i ?_ | refine vSkip_i ?_ | refine vExit_i ?_ | refine vBlock_i ?_ | refine Ks_p ?_ | refine Kl_p ?_ | refine blk_p ?_ | exact Kb_p | refine vGoto_i ?_ | refine vLabel_i ?_ | refine Ks_g ?_ | refine Kl_g ?_ | refine blk_g ?_ | refine jmp_g ?_ | refine jmp_n ?_ | refine jmp_r ?_ | refine nog_n ?_ | refine nog_r ?_ | refine blk_n ?_ | refine blk_r ?_ | refine blk_e ?_ | refine blk_o (by decide) ?_ | refine cp_t ?_ | refine cp_f ?_
      | ((with_reducible apply vCond_x); (focus (simp only [lv, E1, E2, E5, ET, T, orc_mv, noO_mv, mvB, orc_bx, noO_bx, bxB, orc_sx, noO_sx, sxB, fwd, fwds, inv, mOk, Int.toNat_natCast, Nat.div_one, Nat.mul_one, Int.reduceToNat, SB, List.not_mem_nil, ↓reduceIte, ne_eq, reduceCtorEq, Nat.reduceLT, Nat.reduceEqDiff, Nat.reduceAdd, Nat.reduceMul, Nat.reduceLeDiff, Nat.reduceDiv, Nat.reduceMod, Nat.reduceSub, Nat.reduceBEq, List.length_map, List.length_take, List.length_drop, bs_len, rn_len, cut_bs, cut_bsd, Int.sub_zero, Int.toNat_natCast, Int.reduceToNat, Int.natCast_zero, chs_len, chs_cnt, List.length_append, ← chs_snoc]; with_reducible first | exact Eq.refl (bo true) | exact Eq.refl (bo false))))
      | ((with_reducible refine And.intro ?_ ?_); (focus (try omega)))
    all_goals try simp only [List.length_drop, List.length_take, List.drop_drop, Int.toNat_natCast, Nat.reduceAdd] at *
    all_goals try (simp only [cnt, List.length_append, List.length_cons, List.length_nil, chs_len] at *; omega)
    all_goals try
      ((refine Kb_pr ?_)
       rw [e0]
       refine hI.bad (by simp only []; omega) ?_
       show readCh r = .bad _
       unfold readCh
       (repeat' split) <;> first | (exfalso; omega) | rfl
       done)
    · have hn : readCh r = .ok ⟨numR r, (dec ((r.drop 8).take (numR (r.drop 4)).toNat)).1, (dec ((r.drop (8 + (numR (r.drop 4)).toNat + 4)).take (numR (r.drop (8 + (numR (r.drop 4)).toNat))).toNat)).1⟩ (r.drop (8 + (numR (r.drop 4)).toNat + 4 + (numR (r.drop (8 + (numR (r.drop 4)).toNat))).toNat)) := by
        unfold readCh
        (repeat' split) <;> first | (exfalso; omega) | rfl
      refine Kl_n ⟨_, hI.next (by simp only []; omega) hn (hR.drop _) (by simp only [List.length_drop]; omega), by simp only []; omega, ?_⟩
      simp only [chs_snoc, Int.natCast_add, Int.natCast_one]
      rw [u8in (by omega) (by omega)]
    · refine Kb_rr (a := acc) (rest := r) (by rw [e0]; exact hI.stop (by simp only []; omega)) ?_
      first | refine Kb_r ?_ | refine Kb_n ?_
      simp only [Tryd.f71, E4, E3, E2, E5, rawX, deadX, ET, T, SB, List.not_mem_nil, ↓reduceIte, ne_eq, reduceCtorEq, Nat.reduceLT, Nat.reduceEqDiff, Nat.reduceAdd, Nat.reduceMul, Nat.reduceLeDiff, Nat.reduceDiv, Nat.reduceMod, Nat.reduceSub, Nat.reduceBEq, List.length_map, List.length_take, List.length_drop, bs_len, rn_len, cut_bs, cut_bsd, Int.sub_zero, Int.toNat_natCast, Int.reduceToNat, Int.natCast_zero, chs_len, chs_cnt, List.length_append, ← chs_snoc]
      generalize hW : List.contains (wrs _) 0 = b
      obtain rfl : b = false := hW.symm.trans (by kernel_rfl)
      simp only [E4, E3, E2, E5, rawX, deadX, ET, T, SB, List.not_mem_nil, ↓reduceIte, ne_eq, reduceCtorEq, Nat.reduceLT, Nat.reduceEqDiff, Nat.reduceAdd, Nat.reduceMul, Nat.reduceLeDiff, Nat.reduceDiv, Nat.reduceMod, Nat.reduceSub, Nat.reduceBEq, List.length_map, List.length_take, List.length_drop, bs_len, rn_len, cut_bs, cut_bsd, Int.sub_zero, Int.toNat_natCast, Int.reduceToNat, Int.natCast_zero, chs_len, chs_cnt, List.length_append, ← chs_snoc]
  · exact Kb_pr (by unfold readChs; rw [if_pos (by omega)])
end Go.Proofs.YtdpflafjfkooeaaDoorG
namespace Go.Proofs.YtdpflafjfkooeaaDoorG
open Go Go.RowKit Go.Proofs Go.Proofs.YtdpflafjfkooeaaDoorG.Dec
set_option linter.unusedSimpArgs false
set_option linter.unusedVariables false
/-- Bytes, of a bounded number. -/
structure BytN (n : Nat) (xs : List Int) : Prop where
  bytes : Bytes xs
  len : xs.length ≤ n
theorem BytN.drop {n : Nat} {xs : List Int} (h : BytN n xs) (k : Nat) : BytN n (xs.drop k) := ⟨h.bytes.drop k, by have := h.len; simp only [List.length_drop]; omega⟩
theorem num_rest {xs r : List Int} {c : Int} (h : readNum xs = .ok c r) : r = xs.drop 4 ∧ c = numR xs := by
  unfold readNum at h
  repeat' split at h
  all_goals cases h
  exact ⟨rfl, rfl⟩
theorem text_rest {xs r l : List Int} {n : Int} (h : readText n xs = .ok l r) : r = xs.drop n.toNat ∧ l = (dec (xs.take n.toNat)).1 ∧ n ≤ xs.length := by
  unfold readText at h
  repeat' split at h
  all_goals cases h
  exact ⟨rfl, rfl, ‹_›⟩
theorem num_good {n : Nat} {xs r : List Int} {c : Int} (h : readNum xs = .ok c r) (g : BytN n xs) : BytN n r := by rw [(num_rest h).1]; exact g.drop _
theorem num_nn {n : Nat} {xs r : List Int} {c : Int} (h : readNum xs = .ok c r) (g : BytN n xs) : 0 ≤ c := by rw [(num_rest h).2]; exact numR_nn g.bytes
theorem text_good {n : Nat} {xs r l : List Int} {k : Int} (h : readText k xs = .ok l r) (g : BytN n xs) : BytN n r := by rw [(text_rest h).1]; exact g.drop _
/-- A text within a bound. -/
structure TxtOk (n : Nat) (l : List Int) : Prop where
  len : l.length ≤ n
  run : R32s l
theorem gd_run {m : List Int} (h : Gd m) : R32s m := fun x hx => by
  have h1 := mt (size_zero_iff x).2 (h x hx)
  exact ⟨by omega, by omega⟩
theorem dec_txt {n : Nat} {l : List Int} (g : BytN n l) : TxtOk n (dec l).1 := by
  have hl := g.len
  rcases dec_split g.bytes with ⟨m, h1, h2, h3⟩ | ⟨j, _, h3⟩
  · rw [h3]
    have := forms_ge h1
    rw [h2] at this
    exact ⟨Nat.le_trans this hl, gd_run h1⟩
  · rw [h3]
    exact ⟨by simp, fun x hx => by simp at hx⟩
theorem BytN.take {n : Nat} {xs : List Int} (h : BytN n xs) (k : Nat) : BytN n (xs.take k) := ⟨h.bytes.take k, by have := h.len; simp only [List.length_take]; omega⟩
structure ChTxt (n : Nat) (c : Ch) : Prop where
  gone : TxtOk n c.gone
  came : TxtOk n c.came
theorem ch_rest {n : Nat} {xs r : List Int} {c : Ch} (h : readCh xs = .ok c r) (g : BytN n xs) : BytN n r ∧ ChTxt n c := by
  unfold readCh at h
  repeat' split at h
  all_goals cases h
  exact ⟨g.drop _, dec_txt ((g.drop _).take _), dec_txt ((g.drop _).take _)⟩
theorem n_rest {n : Nat} : ∀ {k : Nat} {xs r : List Int} {l : List Ch}, readN k xs = .ok l r → BytN n xs → BytN n r ∧ l.length = k ∧ ∀ c ∈ l, ChTxt n c
  | 0, xs, r, l, h, g => by
    simp only [readN] at h
    cases h
    exact ⟨g, rfl, fun c hc => by simp at hc⟩
  | k + 1, xs, r, l, h, g => by
    simp only [readN] at h
    split at h
    · rename_i c r1 h1
      obtain ⟨g1, t1⟩ := ch_rest h1 g
      cases h2 : readN k r1 with
      | bad e => rw [h2] at h; cases h
      | ok l2 r2 =>
        rw [h2] at h
        cases h
        obtain ⟨g2, e2, t2⟩ := n_rest h2 g1
        refine ⟨g2, by simp [e2, Nat.add_comm], fun c' hc => ?_⟩
        rcases List.mem_append.1 hc with hc | hc
        · simp at hc; subst hc; exact t1
        · exact t2 c' hc
    · cases h
theorem chs_rest {n : Nat} {xs r : List Int} {l : List Ch} (h : readChs xs = .ok l r) (g : BytN n xs) : BytN n r ∧ l.length ≤ 255 ∧ ∀ c ∈ l, ChTxt n c := by
  unfold readChs at h
  split at h
  · cases h
  · obtain ⟨h1, h2, h3⟩ := n_rest h (g.drop 1)
    have := rd_bd g.bytes 0
    exact ⟨h1, by omega, h3⟩
theorem chs_good {n : Nat} {xs r : List Int} {l : List Ch} (h : readChs xs = .ok l r) (g : BytN n xs) : BytN n r := (chs_rest h g).1
theorem rnumG (xs : List Int) (g : BytN 30000000000000 xs) : CallB Tryd.prog 69 [(121, rdr xs)] [r0] (outR (readNum xs) i64) := rnum_ok xs g.bytes (by have := g.len; omega)
theorem rtextG (xs : List Int) (n : Int) (g : BytN 30000000000000 xs) (h0 : 0 ≤ n) : CallB Tryd.prog 70 [(121, rdr xs)] [r0, i64 n] (outR (readText n xs) slr) := rtext_ok xs g.bytes g.len n h0
theorem rchsG (xs : List Int) (g : BytN 30000000000000 xs) : CallB Tryd.prog 71 [(121, rdr xs)] [r0] (outR (readChs xs) fun l => sln 3 (chs l)) := rchs_ok xs g.bytes g.len
def RR.bind {α β : Type} (r : RR α) (f : α → List Int → RR β) : RR β := match r with
  | .ok a rest => f a rest
  | .bad e => .bad e
/-- A state, read. -/
def readSt (xs : List Int) : RR (Int × St) :=
  (readNum xs).bind fun c r => (readNum r).bind fun n r => (readText n r).bind fun t r => (readChs r).bind fun u r => (readChs r).bind fun v r => (readEnd r).bind fun _ r => .ok (c, ⟨t, u, v⟩) r
/-- A state's cells. -/
def St.cs (s : St) : List TV := [.v (.sl 1 (rn s.text)), .v (.sl 3 (chs s.undo)), .v (.sl 3 (chs s.redo))]
def st00 : St := ⟨[], [], []⟩
abbrev cbox (n : Int) : Nat × List TV := (3, [.v (.raw (.int .i64 n))])
abbrev pbox : Nat × List TV := (119, [.pr 3 0])
set_option maxRecDepth 10000 in
set_option maxHeartbeats 16000000 in
theorem rst1_ok (xs : List Int) (g : BytN 30000000000000 xs) (c : Int) (s : St) (rest : List Int) (h : readSt xs = .ok (c, s) rest) : CallB Tryd.prog 68 [pbox, cbox 0, (29, st00.cs), (121, rdr xs)] (lentA [0, 1, 2]) (.ret (.tup []) [(0, []), cbox c, (29, s.cs), (0, [])]) := by
  refine fn_okB' T_ok (orc_ok _) mixed Tryd.func68 rfl (by kernel_rfl) (lv [[0, 1, 2], [0, 1, 2], [0, 1, 2], [0, 1, 2], [0, 1, 2]]) 18 rfl (by simp) (by simp [Out.ok, X.all, PX.all, TV.isV, TV.lent, St.cs]) ?_
  simp only [lentL, lentA, List.map, argsG, Nat.zero_add, Nat.reduceAdd, List.cons_append, List.nil_append, St.cs, st00]
  repeat' first
    | ((first
        | ((with_reducible refine vR_cons (by decide) ?_); generalize hk : KtR _ _ _ _ _ _ _ _ _ _ = k)
        | ((first
        | with_reducible refine vOps_cons' ?_
        | ((with_reducible apply orc_br); (focus (exact rnumG _ (by repeat (first | exact g | refine num_good (by assumption) ?_ | refine text_good (by assumption) ?_ | refine chs_good (by assumption) ?_)); done)); (all_goals (first | intro ra rrest hrr | intro re hrr)))
        | ((with_reducible apply orc_br); (focus (exact rtextG _ _ (by repeat (first | exact g | refine num_good (by assumption) ?_ | refine text_good (by assumption) ?_ | refine chs_good (by assumption) ?_)) (by refine num_nn (n := 30000000000000) (by assumption) ?_; repeat (first | exact g | refine num_good (by assumption) ?_)); done)); (all_goals (first | intro ra rrest hrr | intro re hrr)))
        | ((with_reducible apply orc_br); (focus (exact rchsG _ (by repeat (first | exact g | refine num_good (by assumption) ?_ | refine text_good (by assumption) ?_ | refine chs_good (by assumption) ?_)); done)); (all_goals (first | intro ra rrest hrr | intro re hrr)))
        | ((with_reducible apply orc_br); (focus (exact rend_ok _; done)); (all_goals (first | intro ra rrest hrr | intro re hrr)))) <;> generalize hk : Kt _ _ _ _ _ _ _ _ _ = k)) <;> (simp only [Tryd.f68, lv, E1, E2, E5, ET, T, orc_mv, noO_mv, mvB, orc_bx, noO_bx, bxB, orc_sx, noO_sx, sxB, fwd, fwds, inv, mOk, Int.toNat_natCast, Nat.div_one, Nat.mul_one, Int.reduceToNat, SB, List.not_mem_nil, ↓reduceIte, ne_eq, reduceCtorEq, Nat.reduceLT, Nat.reduceEqDiff, Nat.reduceAdd, Nat.reduceMul, Nat.reduceLeDiff, Nat.reduceDiv, Nat.reduceMod, Nat.reduceSub, Nat.reduceBEq, List.length_map, bs_len, rn_len, chs_len, chs_cnt, Int.sub_zero, Int.toNat_natCast, Int.reduceToNat, Int.natCast_zero]; (try simp (disch := omega) only [wrap_in, Int.toNat_natCast, tv_rn, tv_bst]); subst hk))
    | with_reducible first | refine Kt_p ?_ | refine Kt_i (by kernel_rfl) ?_ | refine Kr_f (by kernel_rfl) ?_
    | (with_reducible refine Kr_t ?_; simp only [List.length_append, List.length_cons, List.length_nil, Nat.reduceAdd, Nat.reduceSub, List.drop_succ_cons, List.drop_zero])
    | with_reducible first | refine vR_nil ?_ | refine KtR_i (by kernel_rfl) ?_ | refine KrR_i (by kernel_rfl) ?_ | refine vR_skip (by decide) ?_
    | ((with_reducible refine vB_i ?_ ?_) <;> intro _ <;> (first | (exfalso; omega) | (exact absurd trivial ‹¬True›) | (try dsimp only [])))
    | ((with_reducible refine vOps_nil' ?_); refine Kr_i (by kernel_rfl) ?_; generalize hk : plain _ _ = G; simp only [lv, E3, E2, E5, rawX, deadX, SB, List.not_mem_nil, ↓reduceIte, ne_eq, reduceCtorEq, Nat.reduceLT, Nat.reduceEqDiff, Nat.reduceAdd, Nat.reduceMul, Nat.reduceLeDiff, Nat.reduceDiv, Nat.reduceMod, Nat.reduceSub, Nat.reduceBEq, List.length_map, bs_len, rn_len, chs_len, chs_cnt, Int.sub_zero, Int.toNat_natCast, Int.reduceToNat, Int.natCast_zero] at hk; subst hk)
    | with_reducible refine vSeq_i ?_
    | with_reducible first | refine vRegion_i (by kernel_rfl) ?_ | refine Kv_i ?_
    | ((with_reducible apply vStrK_i); (focus (rfl; done)))
    | ((with_reducible refine imp_i ?_); intro _)
    | with_reducible first | refine Ks_n ?_ | refine Ks_r ?_ | refine Ks_e ?_ | refine Kl_e ?_ | refine Kx_n ?_ | refine Kl_r ?_ | refine vRet_i ?_ | refine vSkip_i ?_ | refine vExit_i ?_ | refine vBlock_i ?_ | refine Ks_p ?_ | refine Kl_p ?_ | refine blk_p ?_ | exact Kb_p | refine vGoto_i ?_ | refine vLabel_i ?_ | refine Ks_g ?_ | refine Kl_g ?_ | refine blk_g ?_ | refine jmp_g ?_ | refine jmp_n ?_ | refine jmp_r ?_ | refine nog_n ?_ | refine nog_r ?_ | refine blk_n ?_ | refine blk_r ?_ | refine blk_e ?_ | refine blk_o (by decide) ?_ | refine cp_t ?_ | refine cp_f ?_
    | ((with_reducible apply vCond_x); (focus (simp only [lv, E1, E2, E5, ET, T, orc_mv, noO_mv, mvB, orc_bx, noO_bx, bxB, orc_sx, noO_sx, sxB, fwd, fwds, inv, mOk, Int.toNat_natCast, Nat.div_one, Nat.mul_one, Int.reduceToNat, SB, List.not_mem_nil, ↓reduceIte, ne_eq, reduceCtorEq, Nat.reduceLT, Nat.reduceEqDiff, Nat.reduceAdd, Nat.reduceMul, Nat.reduceLeDiff, Nat.reduceDiv, Nat.reduceMod, Nat.reduceSub, Nat.reduceBEq, List.length_map, bs_len, rn_len, chs_len, chs_cnt, Int.sub_zero, Int.toNat_natCast, Int.reduceToNat, Int.natCast_zero]; with_reducible first | exact Eq.refl (bo true) | exact Eq.refl (bo false))))
    | ((with_reducible refine And.intro ?_ ?_); (focus (try omega)))
  all_goals try ((have hh : readSt xs = .bad re := by (unfold readSt; simp only [RR.bind, *])); rw [h] at hh; cases hh; done)
  rename_i a1 r1 q1 a2 r2 q2 a3 r3 q3 a4 r4 q4 a5 r5 q5
  have hh : readSt xs = .ok (a1, ⟨a3, a4, a5⟩) rrest := by unfold readSt; simp only [RR.bind, *]
  rw [h] at hh
  cases hh
  first | refine Kb_r ?_ | refine Kb_n ?_
  simp only [Tryd.f68, E4, E3, E2, E5, rawX, deadX, ET, T, SB, List.not_mem_nil, ↓reduceIte, ne_eq, reduceCtorEq, Nat.reduceLT, Nat.reduceEqDiff, Nat.reduceAdd, Nat.reduceMul, Nat.reduceLeDiff, Nat.reduceDiv, Nat.reduceMod, Nat.reduceSub, Nat.reduceBEq, List.length_map, bs_len, rn_len, chs_len, chs_cnt, Int.sub_zero, Int.toNat_natCast, Int.reduceToNat, Int.natCast_zero]
  generalize hW : List.contains (wrs _) 1 = b
  obtain rfl : b = false := hW.symm.trans (by kernel_rfl)
  generalize hW : List.contains (wrs _) 2 = b
  obtain rfl : b = false := hW.symm.trans (by kernel_rfl)
  simp only [E4, E3, E2, E5, rawX, deadX, ET, T, SB, List.not_mem_nil, ↓reduceIte, ne_eq, reduceCtorEq, Nat.reduceLT, Nat.reduceEqDiff, Nat.reduceAdd, Nat.reduceMul, Nat.reduceLeDiff, Nat.reduceDiv, Nat.reduceMod, Nat.reduceSub, Nat.reduceBEq, List.length_map, bs_len, rn_len, chs_len, chs_cnt, Int.sub_zero, Int.toNat_natCast, Int.reduceToNat, Int.natCast_zero]
set_option maxRecDepth 10000 in
set_option maxHeartbeats 16000000 in
theorem rst1_bad (xs : List Int) (g : BytN 30000000000000 xs) (e : Int) (h : readSt xs = .bad e) : CallB Tryd.prog 68 [pbox, cbox 0, (29, st00.cs), (121, rdr xs)] (lentA [0, 1, 2]) (.pan (errno e)) := by
  refine fn_okB' T_ok (orc_ok _) mixed Tryd.func68 rfl (by kernel_rfl) (lv [[0, 1, 2], [0, 1, 2], [0, 1, 2], [0, 1, 2], [0, 1, 2]]) 18 rfl (by simp) trivial ?_
  simp only [lentL, lentA, List.map, argsG, Nat.zero_add, Nat.reduceAdd, List.cons_append, List.nil_append, St.cs, st00]
  repeat' first
    | ((first
        | ((with_reducible refine vR_cons (by decide) ?_); generalize hk : KtR _ _ _ _ _ _ _ _ _ _ = k)
        | ((first
        | with_reducible refine vOps_cons' ?_
        | ((with_reducible apply orc_br); (focus (exact rnumG _ (by repeat (first | exact g | refine num_good (by assumption) ?_ | refine text_good (by assumption) ?_ | refine chs_good (by assumption) ?_)); done)); (all_goals (first | intro ra rrest hrr | intro re hrr)))
        | ((with_reducible apply orc_br); (focus (exact rtextG _ _ (by repeat (first | exact g | refine num_good (by assumption) ?_ | refine text_good (by assumption) ?_ | refine chs_good (by assumption) ?_)) (by refine num_nn (n := 30000000000000) (by assumption) ?_; repeat (first | exact g | refine num_good (by assumption) ?_)); done)); (all_goals (first | intro ra rrest hrr | intro re hrr)))
        | ((with_reducible apply orc_br); (focus (exact rchsG _ (by repeat (first | exact g | refine num_good (by assumption) ?_ | refine text_good (by assumption) ?_ | refine chs_good (by assumption) ?_)); done)); (all_goals (first | intro ra rrest hrr | intro re hrr)))
        | ((with_reducible apply orc_br); (focus (exact rend_ok _; done)); (all_goals (first | intro ra rrest hrr | intro re hrr)))) <;> generalize hk : Kt _ _ _ _ _ _ _ _ _ = k)) <;> (simp only [Tryd.f68, lv, E1, E2, E5, ET, T, orc_mv, noO_mv, mvB, orc_bx, noO_bx, bxB, orc_sx, noO_sx, sxB, fwd, fwds, inv, mOk, Int.toNat_natCast, Nat.div_one, Nat.mul_one, Int.reduceToNat, SB, List.not_mem_nil, ↓reduceIte, ne_eq, reduceCtorEq, Nat.reduceLT, Nat.reduceEqDiff, Nat.reduceAdd, Nat.reduceMul, Nat.reduceLeDiff, Nat.reduceDiv, Nat.reduceMod, Nat.reduceSub, Nat.reduceBEq, List.length_map, bs_len, rn_len, chs_len, chs_cnt, Int.sub_zero, Int.toNat_natCast, Int.reduceToNat, Int.natCast_zero]; (try simp (disch := omega) only [wrap_in, Int.toNat_natCast, tv_rn, tv_bst]); subst hk))
    | with_reducible first | refine Kt_p ?_ | refine Kt_i (by kernel_rfl) ?_ | refine Kr_f (by kernel_rfl) ?_
    | (with_reducible refine Kr_t ?_; simp only [List.length_append, List.length_cons, List.length_nil, Nat.reduceAdd, Nat.reduceSub, List.drop_succ_cons, List.drop_zero])
    | with_reducible first | refine vR_nil ?_ | refine KtR_i (by kernel_rfl) ?_ | refine KrR_i (by kernel_rfl) ?_ | refine vR_skip (by decide) ?_
    | ((with_reducible refine vB_i ?_ ?_) <;> intro _ <;> (first | (exfalso; omega) | (exact absurd trivial ‹¬True›) | (try dsimp only [])))
    | ((with_reducible refine vOps_nil' ?_); refine Kr_i (by kernel_rfl) ?_; generalize hk : plain _ _ = G; simp only [lv, E3, E2, E5, rawX, deadX, SB, List.not_mem_nil, ↓reduceIte, ne_eq, reduceCtorEq, Nat.reduceLT, Nat.reduceEqDiff, Nat.reduceAdd, Nat.reduceMul, Nat.reduceLeDiff, Nat.reduceDiv, Nat.reduceMod, Nat.reduceSub, Nat.reduceBEq, List.length_map, bs_len, rn_len, chs_len, chs_cnt, Int.sub_zero, Int.toNat_natCast, Int.reduceToNat, Int.natCast_zero] at hk; subst hk)
    | with_reducible refine vSeq_i ?_
    | with_reducible first | refine vRegion_i (by kernel_rfl) ?_ | refine Kv_i ?_
    | ((with_reducible apply vStrK_i); (focus (rfl; done)))
    | ((with_reducible refine imp_i ?_); intro _)
    | with_reducible first | refine Ks_n ?_ | refine Ks_r ?_ | refine Ks_e ?_ | refine Kl_e ?_ | refine Kx_n ?_ | refine Kl_r ?_ | refine vRet_i ?_ | refine vSkip_i ?_ | refine vExit_i ?_ | refine vBlock_i ?_ | refine Ks_p ?_ | refine Kl_p ?_ | refine blk_p ?_ | exact Kb_p | refine vGoto_i ?_ | refine vLabel_i ?_ | refine Ks_g ?_ | refine Kl_g ?_ | refine blk_g ?_ | refine jmp_g ?_ | refine jmp_n ?_ | refine jmp_r ?_ | refine nog_n ?_ | refine nog_r ?_ | refine blk_n ?_ | refine blk_r ?_ | refine blk_e ?_ | refine blk_o (by decide) ?_ | refine cp_t ?_ | refine cp_f ?_
    | ((with_reducible apply vCond_x); (focus (simp only [lv, E1, E2, E5, ET, T, orc_mv, noO_mv, mvB, orc_bx, noO_bx, bxB, orc_sx, noO_sx, sxB, fwd, fwds, inv, mOk, Int.toNat_natCast, Nat.div_one, Nat.mul_one, Int.reduceToNat, SB, List.not_mem_nil, ↓reduceIte, ne_eq, reduceCtorEq, Nat.reduceLT, Nat.reduceEqDiff, Nat.reduceAdd, Nat.reduceMul, Nat.reduceLeDiff, Nat.reduceDiv, Nat.reduceMod, Nat.reduceSub, Nat.reduceBEq, List.length_map, bs_len, rn_len, chs_len, chs_cnt, Int.sub_zero, Int.toNat_natCast, Int.reduceToNat, Int.natCast_zero]; with_reducible first | exact Eq.refl (bo true) | exact Eq.refl (bo false))))
    | ((with_reducible refine And.intro ?_ ?_); (focus (try omega)))
  all_goals try ((have hh : readSt xs = .bad re := by (unfold readSt; simp only [RR.bind, *])); rw [h] at hh; cases hh; rfl)
  rename_i a1 r1 q1 a2 r2 q2 a3 r3 q3 a4 r4 q4 a5 r5 q5
  have hh : readSt xs = .ok (a1, ⟨a3, a4, a5⟩) rrest := by unfold readSt; simp only [RR.bind, *]
  rw [h] at hh
  cases hh
end Go.Proofs.YtdpflafjfkooeaaDoorG
namespace Go.Proofs.YtdpflafjfkooeaaDoorG
open Go Go.RowKit Go.Proofs Go.Proofs.YtdpflafjfkooeaaDoorG.Dec
set_option linter.unusedSimpArgs false
set_option linter.unusedVariables false
theorem BytN.mono {n m : Nat} {xs : List Int} (g : BytN n xs) (h : n ≤ m) : BytN m xs := ⟨g.bytes, Nat.le_trans g.len h⟩
theorem RR.bind_ok {α β : Type} {r : RR α} {f : α → List Int → RR β} {b : β} {rest : List Int} (h : r.bind f = .ok b rest) : ∃ a r1, r = .ok a r1 ∧ f a r1 = .ok b rest := by
  cases r with
  | ok a r1 => exact ⟨a, r1, rfl, h⟩
  | bad e => cases h
theorem RR.bind_bad {α β : Type} {r : RR α} {f : α → List Int → RR β} {e : Int} (h : r.bind f = .bad e) : r = .bad e ∨ ∃ a r1, r = .ok a r1 ∧ f a r1 = .bad e := by
  cases r with
  | ok a r1 => exact .inr ⟨a, r1, rfl, h⟩
  | bad e' =>
    have h' : (RR.bad e' : RR β) = .bad e := h
    cases h'
    exact .inl rfl
theorem num_e {xs : List Int} {e : Int} (h : readNum xs = .bad e) : e ≠ 0 := by
  unfold readNum at h
  repeat' split at h
  all_goals first | (cases h; done) | (cases h; omega)
theorem text_e {xs : List Int} {n e : Int} (h : readText n xs = .bad e) : e ≠ 0 := by
  unfold readText at h
  repeat' split at h
  all_goals first | (cases h; done) | (cases h; omega) | (cases h; assumption)
theorem ch_e {xs : List Int} {e : Int} (h : readCh xs = .bad e) : e ≠ 0 := by
  unfold readCh at h
  repeat' split at h
  all_goals first | (cases h; done) | (cases h; omega) | (cases h; assumption)
theorem n_e : ∀ {k : Nat} {xs : List Int} {e : Int}, readN k xs = .bad e → e ≠ 0
  | 0, xs, e, h => by simp only [readN] at h; cases h
  | k + 1, xs, e, h => by
    simp only [readN] at h
    split at h
    · rename_i c r1 h1
      cases h2 : readN k r1 with
      | bad e2 => rw [h2] at h; cases h; exact n_e h2
      | ok l2 r2 => rw [h2] at h; cases h
    · rename_i h1
      cases h
      exact ch_e h1
theorem chs_e {xs : List Int} {e : Int} (h : readChs xs = .bad e) : e ≠ 0 := by
  unfold readChs at h
  split at h
  · cases h; omega
  · exact n_e h
theorem end_e {xs : List Int} {e : Int} (h : readEnd xs = .bad e) : e ≠ 0 := by
  unfold readEnd at h
  split at h
  · cases h
  · cases h; omega
theorem readSt_e {xs : List Int} {e : Int} (h : readSt xs = .bad e) : e ≠ 0 := by
  rcases RR.bind_bad h with h | ⟨a1, r1, q1, h⟩
  · exact num_e h
  rcases RR.bind_bad h with h | ⟨a2, r2, q2, h⟩
  · exact num_e h
  rcases RR.bind_bad h with h | ⟨a3, r3, q3, h⟩
  · exact text_e h
  rcases RR.bind_bad h with h | ⟨a4, r4, q4, h⟩
  · exact chs_e h
  rcases RR.bind_bad h with h | ⟨a5, r5, q5, h⟩
  · exact chs_e h
  rcases RR.bind_bad h with h | ⟨a6, r6, q6, h⟩
  · exact end_e h
  cases h
/-- What a reading of a state comes to. -/
def readStF (xs : List Int) : Int × St × Int := match readSt xs with
  | .ok p _ => if rightF p.2 = 0 then (p.1, p.2, 0) else (0, st00, rightF p.2)
  | .bad e => (0, st00, e)
def stE (p : Int × St × Int) : X := .tup [.one (.v (.raw (.int .i64 p.1))), .agg p.2.1.cs, .one (.v (.raw (.int .i64 p.2.2)))]
set_option maxRecDepth 10000 in
set_option maxHeartbeats 16000000 in
theorem readState_ok' (xs : List Int) (g' : BytN 30000000000000 xs) (hS : ∀ c s rest, readSt xs = .ok (c, s) rest → s.ok) : CallOk Tryd.prog 57 [sl (bs xs)] (stE (readStF xs)) [] false := by
  cases hro : readSt xs with
  | ok p rest =>
    obtain ⟨c, s⟩ := p
    have hw := caught_okR (hs := [0, 1, 2]) (rst1_ok xs g' c s rest hro)
    have hR := right_ok goes_ok s (hS _ _ _ hro)
    rw [show readStF xs = if rightF s = 0 then (c, s, 0) else (0, st00, rightF s) by rw [readStF, hro]]
    split
    · rename_i h0
      refine fn_ok' T_ok (orc_ok _) mixed Tryd.func57 rfl (by kernel_rfl) (lv [[0, 2, 3], [2, 3, 5], [2, 3, 4], [2, 3, 4, 12], [2, 3, 4], [2, 3, 4, 16], [2, 3, 4, 1000003], [2, 3, 4, 1000003]]) 21 rfl (by simp) rfl (by simp) ?_
      simp only [argsG, Nat.zero_add, Nat.reduceAdd, St.cs, st00, St.x] at *
      repeat' first
        | ((first
            | ((with_reducible refine vR_cons (by decide) ?_); generalize hk : KtR _ _ _ _ _ _ _ _ _ _ = k)
            | ((first
            | with_reducible refine vOps_cons' ?_
            | ((with_reducible apply orc_bc); (focus (exact hw; done)))
            | ((with_reducible apply orc_i); (focus (exact hR; done)))) <;> generalize hk : Kt _ _ _ _ _ _ _ _ _ = k)) <;> (simp only [Tryd.f57, lv, E1, E2, E5, ET, T, orc_mv, noO_mv, mvB, orc_bx, noO_bx, bxB, orc_sx, noO_sx, sxB, fwd, fwds, inv, mOk, Int.toNat_natCast, Nat.div_one, Nat.mul_one, Int.reduceToNat, SB, List.not_mem_nil, ↓reduceIte, ne_eq, reduceCtorEq, Nat.reduceLT, Nat.reduceEqDiff, Nat.reduceAdd, Nat.reduceMul, Nat.reduceLeDiff, Nat.reduceDiv, Nat.reduceMod, Nat.reduceSub, Nat.reduceBEq, List.length_map, bs_len, rn_len, chs_len, chs_cnt, Int.sub_zero, Int.toNat_natCast, Int.reduceToNat, Int.natCast_zero]; (try simp (disch := omega) only [wrap_in, Int.toNat_natCast, tv_rn, tv_bst]); subst hk))
        | with_reducible first | refine Kt_p ?_ | refine Kt_i (by kernel_rfl) ?_ | refine Kr_f (by kernel_rfl) ?_
        | (with_reducible refine Kr_t ?_; simp only [List.length_append, List.length_cons, List.length_nil, Nat.reduceAdd, Nat.reduceSub, List.drop_succ_cons, List.drop_zero])
        | with_reducible first | refine vR_nil ?_ | refine KtR_i (by kernel_rfl) ?_ | refine KrR_i (by kernel_rfl) ?_ | refine vR_skip (by decide) ?_
        | ((with_reducible refine vB_i ?_ ?_) <;> intro _ <;> (first | (exfalso; omega) | (exact absurd trivial ‹¬True›) | (try dsimp only [])))
        | ((with_reducible refine vOps_nil' ?_); refine Kr_i (by kernel_rfl) ?_; generalize hk : plain _ _ = G; simp only [lv, E3, E2, E5, rawX, deadX, SB, List.not_mem_nil, ↓reduceIte, ne_eq, reduceCtorEq, Nat.reduceLT, Nat.reduceEqDiff, Nat.reduceAdd, Nat.reduceMul, Nat.reduceLeDiff, Nat.reduceDiv, Nat.reduceMod, Nat.reduceSub, Nat.reduceBEq, List.length_map, bs_len, rn_len, chs_len, chs_cnt, Int.sub_zero, Int.toNat_natCast, Int.reduceToNat, Int.natCast_zero] at hk; subst hk)
        | with_reducible refine vSeq_i ?_
        | with_reducible first | refine vRegion_i (by kernel_rfl) ?_ | refine Kv_i ?_
        | ((with_reducible apply vStrK_i); (focus (rfl; done)))
        | ((with_reducible refine imp_i ?_); intro _)
        | with_reducible first | refine Ks_n ?_ | refine Ks_r ?_ | refine Ks_e ?_ | refine Kl_e ?_ | refine Kx_n ?_ | refine Kl_r ?_ | refine vRet_i ?_ | refine vSkip_i ?_ | refine vExit_i ?_ | refine vBlock_i ?_ | refine Ks_p ?_ | refine Kl_p ?_ | refine blk_p ?_ | exact Kb_p | refine vGoto_i ?_ | refine vLabel_i ?_ | refine Ks_g ?_ | refine Kl_g ?_ | refine blk_g ?_ | refine jmp_g ?_ | refine jmp_n ?_ | refine jmp_r ?_ | refine nog_n ?_ | refine nog_r ?_ | refine blk_n ?_ | refine blk_r ?_ | refine blk_e ?_ | refine blk_o (by decide) ?_ | refine cp_t ?_ | refine cp_f ?_
        | ((with_reducible apply vCond_x); (focus (simp only [lv, E1, E2, E5, ET, T, orc_mv, noO_mv, mvB, orc_bx, noO_bx, bxB, orc_sx, noO_sx, sxB, fwd, fwds, inv, mOk, Int.toNat_natCast, Nat.div_one, Nat.mul_one, Int.reduceToNat, SB, List.not_mem_nil, ↓reduceIte, ne_eq, reduceCtorEq, Nat.reduceLT, Nat.reduceEqDiff, Nat.reduceAdd, Nat.reduceMul, Nat.reduceLeDiff, Nat.reduceDiv, Nat.reduceMod, Nat.reduceSub, Nat.reduceBEq, List.length_map, bs_len, rn_len, chs_len, chs_cnt, Int.sub_zero, Int.toNat_natCast, Int.reduceToNat, Int.natCast_zero]; with_reducible first | exact Eq.refl (bo true) | exact Eq.refl (bo false))))
        | ((with_reducible refine And.intro ?_ ?_); (focus (try omega)))
      refine Kf_r ?_
      simp only [Tryd.f57, E4, E3, E2, E5, rawX, deadX, ET, T, SB, List.not_mem_nil, ↓reduceIte, ne_eq, reduceCtorEq, Nat.reduceLT, Nat.reduceEqDiff, Nat.reduceAdd, Nat.reduceMul, Nat.reduceLeDiff, Nat.reduceDiv, Nat.reduceMod, Nat.reduceSub, Nat.reduceBEq, List.length_map, bs_len, rn_len, chs_len, chs_cnt, Int.sub_zero, Int.toNat_natCast, Int.reduceToNat, Int.natCast_zero, stE, St.cs, st00]
    · rename_i h0
      refine fn_ok' T_ok (orc_ok _) mixed Tryd.func57 rfl (by kernel_rfl) (lv [[0, 2, 3], [2, 3, 5], [2, 3, 4], [2, 3, 4, 12], [2, 3, 4], [2, 3, 4, 16], [2, 3, 4, 1000003], [2, 3, 4, 1000003]]) 21 rfl (by simp) rfl (by simp) ?_
      simp only [argsG, Nat.zero_add, Nat.reduceAdd, St.cs, st00, St.x] at *
      repeat' first
        | ((first
            | ((with_reducible refine vR_cons (by decide) ?_); generalize hk : KtR _ _ _ _ _ _ _ _ _ _ = k)
            | ((first
            | with_reducible refine vOps_cons' ?_
            | ((with_reducible apply orc_bc); (focus (exact hw; done)))
            | ((with_reducible apply orc_i); (focus (exact hR; done)))) <;> generalize hk : Kt _ _ _ _ _ _ _ _ _ = k)) <;> (simp only [Tryd.f57, lv, E1, E2, E5, ET, T, orc_mv, noO_mv, mvB, orc_bx, noO_bx, bxB, orc_sx, noO_sx, sxB, fwd, fwds, inv, mOk, Int.toNat_natCast, Nat.div_one, Nat.mul_one, Int.reduceToNat, SB, List.not_mem_nil, ↓reduceIte, ne_eq, reduceCtorEq, Nat.reduceLT, Nat.reduceEqDiff, Nat.reduceAdd, Nat.reduceMul, Nat.reduceLeDiff, Nat.reduceDiv, Nat.reduceMod, Nat.reduceSub, Nat.reduceBEq, List.length_map, bs_len, rn_len, chs_len, chs_cnt, Int.sub_zero, Int.toNat_natCast, Int.reduceToNat, Int.natCast_zero]; (try simp (disch := omega) only [wrap_in, Int.toNat_natCast, tv_rn, tv_bst]); subst hk))
        | with_reducible first | refine Kt_p ?_ | refine Kt_i (by kernel_rfl) ?_ | refine Kr_f (by kernel_rfl) ?_
        | (with_reducible refine Kr_t ?_; simp only [List.length_append, List.length_cons, List.length_nil, Nat.reduceAdd, Nat.reduceSub, List.drop_succ_cons, List.drop_zero])
        | with_reducible first | refine vR_nil ?_ | refine KtR_i (by kernel_rfl) ?_ | refine KrR_i (by kernel_rfl) ?_ | refine vR_skip (by decide) ?_
        | ((with_reducible refine vB_i ?_ ?_) <;> intro _ <;> (first | (exfalso; omega) | (exact absurd trivial ‹¬True›) | (try dsimp only [])))
        | ((with_reducible refine vOps_nil' ?_); refine Kr_i (by kernel_rfl) ?_; generalize hk : plain _ _ = G; simp only [lv, E3, E2, E5, rawX, deadX, SB, List.not_mem_nil, ↓reduceIte, ne_eq, reduceCtorEq, Nat.reduceLT, Nat.reduceEqDiff, Nat.reduceAdd, Nat.reduceMul, Nat.reduceLeDiff, Nat.reduceDiv, Nat.reduceMod, Nat.reduceSub, Nat.reduceBEq, List.length_map, bs_len, rn_len, chs_len, chs_cnt, Int.sub_zero, Int.toNat_natCast, Int.reduceToNat, Int.natCast_zero] at hk; subst hk)
        | with_reducible refine vSeq_i ?_
        | with_reducible first | refine vRegion_i (by kernel_rfl) ?_ | refine Kv_i ?_
        | ((with_reducible apply vStrK_i); (focus (rfl; done)))
        | ((with_reducible refine imp_i ?_); intro _)
        | with_reducible first | refine Ks_n ?_ | refine Ks_r ?_ | refine Ks_e ?_ | refine Kl_e ?_ | refine Kx_n ?_ | refine Kl_r ?_ | refine vRet_i ?_ | refine vSkip_i ?_ | refine vExit_i ?_ | refine vBlock_i ?_ | refine Ks_p ?_ | refine Kl_p ?_ | refine blk_p ?_ | exact Kb_p | refine vGoto_i ?_ | refine vLabel_i ?_ | refine Ks_g ?_ | refine Kl_g ?_ | refine blk_g ?_ | refine jmp_g ?_ | refine jmp_n ?_ | refine jmp_r ?_ | refine nog_n ?_ | refine nog_r ?_ | refine blk_n ?_ | refine blk_r ?_ | refine blk_e ?_ | refine blk_o (by decide) ?_ | refine cp_t ?_ | refine cp_f ?_
        | ((with_reducible apply vCond_x); (focus (simp only [lv, E1, E2, E5, ET, T, orc_mv, noO_mv, mvB, orc_bx, noO_bx, bxB, orc_sx, noO_sx, sxB, fwd, fwds, inv, mOk, Int.toNat_natCast, Nat.div_one, Nat.mul_one, Int.reduceToNat, SB, List.not_mem_nil, ↓reduceIte, ne_eq, reduceCtorEq, Nat.reduceLT, Nat.reduceEqDiff, Nat.reduceAdd, Nat.reduceMul, Nat.reduceLeDiff, Nat.reduceDiv, Nat.reduceMod, Nat.reduceSub, Nat.reduceBEq, List.length_map, bs_len, rn_len, chs_len, chs_cnt, Int.sub_zero, Int.toNat_natCast, Int.reduceToNat, Int.natCast_zero]; with_reducible first | exact Eq.refl (bo true) | exact Eq.refl (bo false))))
        | ((with_reducible refine And.intro ?_ ?_); (focus (try omega)))
      refine Kf_r ?_
      simp only [Tryd.f57, E4, E3, E2, E5, rawX, deadX, ET, T, SB, List.not_mem_nil, ↓reduceIte, ne_eq, reduceCtorEq, Nat.reduceLT, Nat.reduceEqDiff, Nat.reduceAdd, Nat.reduceMul, Nat.reduceLeDiff, Nat.reduceDiv, Nat.reduceMod, Nat.reduceSub, Nat.reduceBEq, List.length_map, bs_len, rn_len, chs_len, chs_cnt, Int.sub_zero, Int.toNat_natCast, Int.reduceToNat, Int.natCast_zero, stE, St.cs, st00]
      rfl
  | bad e =>
    have hv : CallB Tryd.prog 67 [pbox, cbox 0, (29, st00.cs), (121, rdr xs)] [.p (.one (.cb 68 [0, 1, 2]))] (.ret (i64 e) [(119, [.dead]), (3, [.dead]), (29, [.dead, .dead, .dead]), (121, [.dead])]) := caught_okP (hs := [0, 1, 2]) (rst1_bad xs g' e hro)
    have he := readSt_e hro
    rw [show readStF xs = (0, st00, e) by rw [readStF, hro]]
    refine fn_ok' T_ok (orc_ok _) mixed Tryd.func57 rfl (by kernel_rfl) (lv [[0, 2, 3], [2, 3, 5], [2, 3, 4], [2, 3, 4, 12], [2, 3, 4], [2, 3, 4, 16], [2, 3, 4, 1000003], [2, 3, 4, 1000003]]) 21 rfl (by simp) rfl (by simp) ?_
    simp only [argsG, Nat.zero_add, Nat.reduceAdd, St.cs, st00, St.x] at *
    repeat' first
      | ((first
          | ((with_reducible refine vR_cons (by decide) ?_); generalize hk : KtR _ _ _ _ _ _ _ _ _ _ = k)
          | ((first
          | with_reducible refine vOps_cons' ?_
          | ((with_reducible apply orc_bc); (focus (exact hv; done)))) <;> generalize hk : Kt _ _ _ _ _ _ _ _ _ = k)) <;> (simp only [Tryd.f57, lv, E1, E2, E5, ET, T, orc_mv, noO_mv, mvB, orc_bx, noO_bx, bxB, orc_sx, noO_sx, sxB, fwd, fwds, inv, mOk, Int.toNat_natCast, Nat.div_one, Nat.mul_one, Int.reduceToNat, SB, List.not_mem_nil, ↓reduceIte, ne_eq, reduceCtorEq, Nat.reduceLT, Nat.reduceEqDiff, Nat.reduceAdd, Nat.reduceMul, Nat.reduceLeDiff, Nat.reduceDiv, Nat.reduceMod, Nat.reduceSub, Nat.reduceBEq, List.length_map, bs_len, rn_len, chs_len, chs_cnt, Int.sub_zero, Int.toNat_natCast, Int.reduceToNat, Int.natCast_zero]; (try simp (disch := omega) only [wrap_in, Int.toNat_natCast, tv_rn, tv_bst]); subst hk))
      | with_reducible first | refine Kt_p ?_ | refine Kt_i (by kernel_rfl) ?_ | refine Kr_f (by kernel_rfl) ?_
      | (with_reducible refine Kr_t ?_; simp only [List.length_append, List.length_cons, List.length_nil, Nat.reduceAdd, Nat.reduceSub, List.drop_succ_cons, List.drop_zero])
      | with_reducible first | refine vR_nil ?_ | refine KtR_i (by kernel_rfl) ?_ | refine KrR_i (by kernel_rfl) ?_ | refine vR_skip (by decide) ?_
      | ((with_reducible refine vB_i ?_ ?_) <;> intro _ <;> (first | (exfalso; omega) | (exact absurd trivial ‹¬True›) | (try dsimp only [])))
      | ((with_reducible refine vOps_nil' ?_); refine Kr_i (by kernel_rfl) ?_; generalize hk : plain _ _ = G; simp only [lv, E3, E2, E5, rawX, deadX, SB, List.not_mem_nil, ↓reduceIte, ne_eq, reduceCtorEq, Nat.reduceLT, Nat.reduceEqDiff, Nat.reduceAdd, Nat.reduceMul, Nat.reduceLeDiff, Nat.reduceDiv, Nat.reduceMod, Nat.reduceSub, Nat.reduceBEq, List.length_map, bs_len, rn_len, chs_len, chs_cnt, Int.sub_zero, Int.toNat_natCast, Int.reduceToNat, Int.natCast_zero] at hk; subst hk)
      | with_reducible refine vSeq_i ?_
      | with_reducible first | refine vRegion_i (by kernel_rfl) ?_ | refine Kv_i ?_
      | ((with_reducible apply vStrK_i); (focus (rfl; done)))
      | ((with_reducible refine imp_i ?_); intro _)
      | with_reducible first | refine Ks_n ?_ | refine Ks_r ?_ | refine Ks_e ?_ | refine Kl_e ?_ | refine Kx_n ?_ | refine Kl_r ?_ | refine vRet_i ?_ | refine vSkip_i ?_ | refine vExit_i ?_ | refine vBlock_i ?_ | refine Ks_p ?_ | refine Kl_p ?_ | refine blk_p ?_ | exact Kb_p | refine vGoto_i ?_ | refine vLabel_i ?_ | refine Ks_g ?_ | refine Kl_g ?_ | refine blk_g ?_ | refine jmp_g ?_ | refine jmp_n ?_ | refine jmp_r ?_ | refine nog_n ?_ | refine nog_r ?_ | refine blk_n ?_ | refine blk_r ?_ | refine blk_e ?_ | refine blk_o (by decide) ?_ | refine cp_t ?_ | refine cp_f ?_
      | ((with_reducible apply vCond_x); (focus (simp only [lv, E1, E2, E5, ET, T, orc_mv, noO_mv, mvB, orc_bx, noO_bx, bxB, orc_sx, noO_sx, sxB, fwd, fwds, inv, mOk, Int.toNat_natCast, Nat.div_one, Nat.mul_one, Int.reduceToNat, SB, List.not_mem_nil, ↓reduceIte, ne_eq, reduceCtorEq, Nat.reduceLT, Nat.reduceEqDiff, Nat.reduceAdd, Nat.reduceMul, Nat.reduceLeDiff, Nat.reduceDiv, Nat.reduceMod, Nat.reduceSub, Nat.reduceBEq, List.length_map, bs_len, rn_len, chs_len, chs_cnt, Int.sub_zero, Int.toNat_natCast, Int.reduceToNat, Int.natCast_zero]; with_reducible first | exact Eq.refl (bo true) | exact Eq.refl (bo false))))
      | ((with_reducible refine And.intro ?_ ?_); (focus (try omega)))
    refine Kf_r ?_
    simp only [Tryd.f57, E4, E3, E2, E5, rawX, deadX, ET, T, SB, List.not_mem_nil, ↓reduceIte, ne_eq, reduceCtorEq, Nat.reduceLT, Nat.reduceEqDiff, Nat.reduceAdd, Nat.reduceMul, Nat.reduceLeDiff, Nat.reduceDiv, Nat.reduceMod, Nat.reduceSub, Nat.reduceBEq, List.length_map, bs_len, rn_len, chs_len, chs_cnt, Int.sub_zero, Int.toNat_natCast, Int.reduceToNat, Int.natCast_zero, stE, St.cs, st00]
    rfl
end Go.Proofs.YtdpflafjfkooeaaDoorG
/- R1: what is written of an operation or a state is read, and what is read is written so (plain Lean). -/
namespace Go.Proofs.YtdpflafjfkooeaaDoorG
open Go Go.RowKit Go.Proofs Go.Proofs.YtdpflafjfkooeaaDoorG.Dec
set_option linter.unusedSimpArgs false
set_option linter.unusedVariables false
/-! ### numbers and texts -/
theorem isI_dest {n : Int} (h : isI n = true) : 0 ≤ n ∧ n ≤ 2147483647 := of_decide_eq_true h
theorem numR_numB {n : Int} (h : isI n = true) (r : List Int) : numR (numB n ++ r) = n := by
  have h' := isI_dest h
  show n / 16777216 % 256 * 16777216 + n / 65536 % 256 * 65536 + n / 256 % 256 * 256 + n % 256 = n
  omega
theorem readNum_B {n : Int} (h : isI n = true) (r : List Int) : readNum (numB n ++ r) = .ok n r := by
  have h' := isI_dest h
  unfold readNum
  rw [numR_numB h, if_pos (by simp only [List.length_append, numB_len]; omega), if_neg (by omega)]
  rfl
theorem encV_forms {l : List Int} (h : scal l) : encV l = forms l := by
  unfold encV; rw [if_pos h, forms_F ((gd_scal l).2 h)]
theorem readText_V {l : List Int} (h : scal l) (r : List Int) : readText ((encV l).length : Int) (encV l ++ r) = .ok l r := by
  have e : ((encV l ++ r).take ((encV l).length : Int).toNat) = encV l := by rw [Int.toNat_natCast]; exact List.take_left' rfl
  have d : (encV l ++ r).drop ((encV l).length : Int).toNat = r := by rw [Int.toNat_natCast]; exact List.drop_left' rfl
  have g : dec (encV l) = (l, 0, 0) := by rw [encV_forms h]; exact dec_enc ((gd_scal l).2 h)
  unfold readText
  rw [e, d, g, if_pos (by simp only [List.length_append]; omega)]
  exact if_pos rfl
theorem numB_byte (n : Int) : Bytes (numB n) := fun x hx => by
  simp only [numB, List.mem_cons, List.not_mem_nil, or_false] at hx
  rcases hx with rfl | rfl | rfl | rfl <;> omega
theorem encV_byte (l : List Int) : Bytes (encV l) := by
  by_cases h : scal l
  · rw [encV_forms h]; exact forms_byte l
  · unfold encV; rw [if_neg h]; exact fun x hx => by simp at hx
theorem Dec.Bytes.app {a b : List Int} (h1 : Bytes a) (h2 : Bytes b) : Bytes (a ++ b) := fun x hx => by
  rcases List.mem_append.1 hx with h | h
  · exact h1 x h
  · exact h2 x h
theorem RR.bind_assoc {α β γ : Type} (r : RR α) (f : α → List Int → RR β) (g : β → List Int → RR γ) : (r.bind f).bind g = r.bind fun a x => (f a x).bind g := by cases r <;> rfl
theorem RR.bind_okE {α β : Type} (a : α) (x : List Int) (f : α → List Int → RR β) : (RR.ok a x).bind f = f a x := rfl
theorem readNum_if (xs : List Int) : readNum xs = if xs.length < 4 then .bad 20 else if numR xs > 2147483647 then .bad 50 else .ok (numR xs) (xs.drop 4) := by
  unfold readNum
  (repeat' split) <;> first | rfl | (exfalso; omega)
def readChB (xs : List Int) : RR Ch := (readNum xs).bind fun a r => (readNum r).bind fun n r => (readText n r).bind fun g r => (readNum r).bind fun m r => (readText m r).bind fun c r => .ok ⟨a, g, c⟩ r
theorem readText_if (n : Int) (xs : List Int) : readText n xs = if (xs.length : Int) < n then .bad 20 else if (dec (xs.take n.toNat)).2.2 ≠ 0 then .bad (dec (xs.take n.toNat)).2.2 else .ok (dec (xs.take n.toNat)).1 (xs.drop n.toNat) := by
  unfold readText
  (repeat' split) <;> first | rfl | (exfalso; omega) | (exfalso; contradiction)
theorem ite_congr3 {α : Type} {c d : Prop} [Decidable c] [Decidable d] {a b b' : α} (h : c ↔ d) (hb : ¬ c → b = b') : (if c then a else b) = if d then a else b' := by
  by_cases q : c
  · rw [if_pos q, if_pos (h.1 q)]
  · rw [if_neg q, if_neg (fun z => q (h.2 z)), hb q]
theorem bind_if {α β : Type} {c : Prop} [Decidable c] {e : Int} {r : RR α} {f : α → List Int → RR β} : (if c then RR.bad e else r).bind f = if c then RR.bad e else r.bind f := by
  split <;> rfl
theorem readCh_eq {xs : List Int} (h : Bytes xs) : readCh xs = readChB xs := by
  have n1 := numR_nn (h.drop 4)
  have n2 := numR_nn (h.drop (8 + (numR (xs.drop 4)).toNat))
  unfold readCh readChB
  rw [readNum_if xs, bind_if]
  refine ite_congr3 Iff.rfl fun q1 => ?_
  rw [bind_if]
  refine ite_congr3 Iff.rfl fun q2 => ?_
  rw [RR.bind_okE, readNum_if, bind_if]
  simp only [List.length_drop, List.drop_drop]
  refine ite_congr3 (by omega) fun q3 => ?_
  rw [bind_if]
  refine ite_congr3 Iff.rfl fun q4 => ?_
  rw [RR.bind_okE, readText_if, bind_if]
  simp only [List.length_drop, List.drop_drop, Nat.reduceAdd]
  refine ite_congr3 (by omega) fun q5 => ?_
  rw [bind_if]
  refine ite_congr3 Iff.rfl fun q6 => ?_
  rw [RR.bind_okE, readNum_if, bind_if]
  simp only [List.length_drop, List.drop_drop]
  refine ite_congr3 (by omega) fun q7 => ?_
  rw [bind_if]
  refine ite_congr3 Iff.rfl fun q8 => ?_
  rw [RR.bind_okE, readText_if, bind_if]
  simp only [List.length_drop, List.drop_drop]
  refine ite_congr3 (by omega) fun q9 => ?_
  rw [bind_if]
  refine ite_congr3 Iff.rfl fun q10 => ?_
  rfl
theorem readN_eq (n : Nat) (xs : List Int) : readN (n + 1) xs = (readCh xs).bind fun c r => (readN n r).bind fun l r => .ok (c :: l) r := by
  rw [readN]
  cases readCh xs with
  | bad e => rfl
  | ok c r =>
    show (readN n r).pre [c] = (readN n r).bind _
    cases readN n r <;> rfl
/-- A state, read, but for the end. -/
def readSt0 (xs : List Int) : RR (Int × St) := (readNum xs).bind fun c r => (readNum r).bind fun n r => (readText n r).bind fun t r => (readChs r).bind fun u r => (readChs r).bind fun v r => .ok (c, ⟨t, u, v⟩) r
theorem readSt_eq (xs : List Int) : readSt xs = (readSt0 xs).bind fun p r => (readEnd r).bind fun _ r => .ok p r := by
  unfold readSt readSt0
  simp only [RR.bind_assoc, RR.bind_okE]
/-! ### forward -/
/-- What may be written of a change. -/
structure ChW (c : Ch) : Prop where
  at_ : isI c.at_ = true
  gone : scal c.gone
  came : scal c.came
  lgone : isI ((encV c.gone).length : Int) = true
  lcame : isI ((encV c.came).length : Int) = true
theorem chF_byte (c : Ch) : Bytes (chF c) := (numB_byte _).app (((numB_byte _).app (encV_byte _)).app ((numB_byte _).app (encV_byte _)))
theorem readCh_F {c : Ch} (h : ChW c) (r : List Int) (hr : Bytes r) : readCh (chF c ++ r) = .ok c r := by
  rw [readCh_eq ((chF_byte c).app hr)]
  unfold readChB chF pieceF
  simp only [List.append_assoc]
  rw [readNum_B h.at_, RR.bind_okE, readNum_B h.lgone, RR.bind_okE, readText_V h.gone, RR.bind_okE, readNum_B h.lcame, RR.bind_okE, readText_V h.came, RR.bind_okE]
theorem flat_byte : ∀ l : List Ch, Bytes (l.flatMap chF)
  | [] => fun x hx => by simp at hx
  | c :: l => by rw [List.flatMap_cons]; exact (chF_byte c).app (flat_byte l)
theorem readN_F : ∀ (l : List Ch) (r : List Int), (∀ c ∈ l, ChW c) → Bytes r → readN l.length (l.flatMap chF ++ r) = .ok l r
  | [], r, _, _ => rfl
  | c :: l, r, h, hr => by
    rw [List.length_cons, readN_eq, List.flatMap_cons, List.append_assoc, readCh_F (h c (by simp)) _ ((flat_byte l).app hr), RR.bind_okE, readN_F l r (fun c hc => h c (by simp [hc])) hr]
    rfl
theorem readChs_F {l : List Ch} (h : ∀ c ∈ l, ChW c) (hl : l.length ≤ 255) (r : List Int) (hr : Bytes r) : readChs (chsF l ++ r) = .ok l r := by
  unfold readChs chsF
  rw [if_neg (by simp)]
  have e : rd (((l.length : Int) % 256 :: l.flatMap chF) ++ r) 0 = (l.length : Int) % 256 := rfl
  have d : (((l.length : Int) % 256 :: l.flatMap chF) ++ r).drop 1 = l.flatMap chF ++ r := rfl
  rw [e, d, show ((l.length : Int) % 256).toNat = l.length by omega]
  exact readN_F l r h hr
theorem chsF_byte (l : List Ch) : Bytes (chsF l) := fun x hx => by
  rcases List.mem_cons.1 hx with rfl | h
  · omega
  · exact flat_byte l x h
/-- A state's bytes, plain. -/
def stB (n : Int) (s : St) : List Int := numB n ++ (pieceF s.text ++ (chsF s.undo ++ chsF s.redo))
theorem stB_byte (n : Int) (s : St) : Bytes (stB n s) := (numB_byte _).app (((numB_byte _).app (encV_byte _)).app ((chsF_byte _).app (chsF_byte _)))
/-- What may be written of a state. -/
structure StW (s : St) : Prop where
  text : scal s.text
  ltext : isI ((encV s.text).length : Int) = true
  undo : ∀ c ∈ s.undo, ChW c
  redo : ∀ c ∈ s.redo, ChW c
  ulen : s.undo.length ≤ 255
  rlen : s.redo.length ≤ 255
theorem readSt0_F {n : Int} {s : St} (hn : isI n = true) (h : StW s) (r : List Int) (hr : Bytes r) : readSt0 (stB n s ++ r) = .ok (n, s) r := by
  unfold readSt0 stB pieceF
  simp only [List.append_assoc]
  rw [readNum_B hn, RR.bind_okE, readNum_B h.ltext, RR.bind_okE, readText_V h.text, RR.bind_okE, readChs_F h.undo h.ulen _ ((chsF_byte _).app hr), RR.bind_okE, readChs_F h.redo h.rlen _ hr, RR.bind_okE]
theorem readSt_F {n : Int} {s : St} (hn : isI n = true) (h : StW s) : readSt (stB n s) = .ok (n, s) [] := by
  have := readSt0_F hn h [] (fun x hx => by simp at hx)
  rw [List.append_nil] at this
  rw [readSt_eq, this]
  rfl
/-- A reading takes a number of bytes, and looks at no more; of fewer it says that they are too few. -/
def Pre {α : Type} (R : List Int → RR α) : Prop := ∀ xs a r, R xs = .ok a r → Bytes xs → ∃ m, m ≤ xs.length ∧ r = xs.drop m ∧ (∀ k, k < m → R (xs.take k) = .bad 20) ∧ ∀ k, m ≤ k → R (xs.take k) = .ok a ((xs.drop m).take (k - m))
theorem Pre.bind {α β : Type} {R : List Int → RR α} {S : α → List Int → RR β} (h : Pre R) (h2 : ∀ a, Pre (S a)) : Pre fun xs => (R xs).bind S := by
  intro xs b s hx hb
  obtain ⟨a, r, q1, q2⟩ := RR.bind_ok hx
  obtain ⟨m, m1, m2, m3, m4⟩ := h xs a r q1 hb
  subst m2
  obtain ⟨n, n1, n2, n3, n4⟩ := h2 a _ b s q2 (hb.drop _)
  rw [List.length_drop] at n1
  refine ⟨m + n, by omega, by rw [n2, List.drop_drop], fun k hk => ?_, fun k hk => ?_⟩
  · show (R (xs.take k)).bind S = _
    by_cases c : k < m
    · rw [m3 k c]; rfl
    · rw [m4 k (by omega), RR.bind_okE, n3 _ (by omega)]
  · show (R (xs.take k)).bind S = _
    rw [m4 k (by omega), RR.bind_okE, n4 _ (by omega), List.drop_drop, show k - m - n = k - (m + n) by omega]
theorem Pre.congr {α : Type} {R S : List Int → RR α} (h : Pre S) (e : ∀ xs, Bytes xs → R xs = S xs) : Pre R := by
  intro xs a r hx hb
  rw [e xs hb] at hx
  obtain ⟨m, m1, m2, m3, m4⟩ := h xs a r hx hb
  exact ⟨m, m1, m2, fun k hk => by rw [e _ (hb.take k)]; exact m3 k hk, fun k hk => by rw [e _ (hb.take k)]; exact m4 k hk⟩
end Go.Proofs.YtdpflafjfkooeaaDoorG
/- R2: a state that may be is read again as it was written. -/
namespace Go.Proofs.YtdpflafjfkooeaaDoorG
open Go Go.RowKit Go.Proofs Go.Proofs.YtdpflafjfkooeaaDoorG.Dec
set_option linter.unusedSimpArgs false
set_option linter.unusedVariables false
theorem walk_at : ∀ {l : List Ch} {n : Nat} {t : List Int}, t.length ≤ 4096 → walkN l n t = true → ∀ j, j < n → isI (l.getD j noCh).at_ = true
  | l, 0, t, _, _, j, hj => by omega
  | l, n + 1, t, ht, h, j, hj => by
    simp only [walkN, Bool.and_eq_true, decide_eq_true_eq] at h
    rcases Nat.lt_or_eq_of_le (Nat.le_of_lt_succ hj) with q | q
    · exact walk_at h.1.2 h.2 j q
    · subst q
      have f := h.1.1.2.2
      exact isI_t ⟨f.1, by have := f.2.1; omega⟩
theorem right_at {s : St} (h : rightF s = 0) : (∀ c ∈ s.undo, isI c.at_ = true) ∧ ∀ c ∈ s.redo, isI c.at_ = true := by
  obtain ⟨z1, z2, z3, z4, z5⟩ := right_zero h
  refine ⟨fun c hc => ?_, fun c hc => ?_⟩
  · obtain ⟨j, hj, rfl⟩ := List.getElem_of_mem hc
    have := walk_at z1 z4 j hj
    rw [getD_inv] at this
    have e : s.undo.getD j noCh = s.undo[j] := by simp [List.getD, List.getElem?_eq_getElem hj]
    rw [e] at this
    exact this
  · obtain ⟨j, hj, rfl⟩ := List.getElem_of_mem hc
    have := walk_at z1 z5 j hj
    have e : s.redo.getD j noCh = s.redo[j] := by simp [List.getD, List.getElem?_eq_getElem hj]
    rw [e] at this
    exact this
theorem isI_len {l : List Int} (h : l.length ≤ 100000) : isI ((encV l).length : Int) = true := isI_t ⟨by omega, by have := encV_le l; omega⟩
theorem right_W {s : St} (hs : s.ok) (h : rightF s = 0) : StW s := by
  obtain ⟨h1, h2, h3⟩ := right_scal h
  obtain ⟨a1, a2⟩ := right_at h
  obtain ⟨z1, z2, z3, z4, z5⟩ := right_zero h
  exact ⟨h1, isI_len hs.len, fun c hc => ⟨a1 c hc, (h2 c hc).1, (h2 c hc).2, isI_len (hs.undo c hc).gone, isI_len (hs.undo c hc).came⟩, fun c hc => ⟨a2 c hc, (h3 c hc).1, (h3 c hc).2, isI_len (hs.redo c hc).gone, isI_len (hs.redo c hc).came⟩, by omega, by omega⟩
theorem stF_B {n : Int} {s : St} (hn : isI n = true) (h : rightF s = 0) : stF n s = (stB n s, 0) := stF_ok hn h
end Go.Proofs.YtdpflafjfkooeaaDoorG
