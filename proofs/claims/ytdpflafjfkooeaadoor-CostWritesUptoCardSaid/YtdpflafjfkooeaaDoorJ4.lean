/- J4: A21, A22, C12 joined. -/
import Derived.Test.YtdpflafjfkooeaaDoorA17
import Derived.Test.YtdpflafjfkooeaaDoorJ1
/- A21: what is done to a state that may be is one: in plain Lean. -/
namespace Go.Proofs.YtdpflafjfkooeaaDoorG
open Go Go.RowKit Go.Proofs
set_option linter.unusedSimpArgs false
set_option linter.unusedVariables false
theorem inv_inv (c : Ch) : c.inv.inv = c := rfl
theorem scal_app {a b : List Int} (ha : scal a) (hb : scal b) : scal (a ++ b) := fun i hi => by
  by_cases h : i < a.length
  · have := ha i h
    simpa [List.getD, List.getElem?_append, h] using this
  · have := hb (i - a.length) (by simp at hi; omega)
    simpa [List.getD, List.getElem?_append, h] using this
theorem scal_take {a : List Int} (ha : scal a) (n : Nat) : scal (a.take n) := fun i hi => by
  simp at hi
  have := ha i (by omega)
  simpa [List.getD, List.getElem?_take, show i < n by omega] using this
theorem scal_drop {a : List Int} (ha : scal a) (n : Nat) : scal (a.drop n) := fun i hi => by
  simp at hi
  have := ha (n + i) (by omega)
  simpa [List.getD, List.getElem?_drop] using this
theorem scal_done {c : Ch} {t : List Int} (hc : c.good t) (ht : scal t) : scal (c.done t) := scal_app (scal_app (scal_take ht _) hc.2.1) (scal_drop ht _)
/-- A change and its inverse. -/
theorem undone {c : Ch} {t : List Int} (h : c.good t) : c.inv.good (c.done t) ∧ c.inv.done (c.done t) = t := by
  obtain ⟨s1, s2, f1, f2, f3, f4⟩ := h
  obtain ⟨a, ha⟩ : ∃ a : Nat, c.at_ = a := ⟨c.at_.toNat, by omega⟩
  have e1 : c.at_.toNat = a := by omega
  have e2 : (c.at_ + (c.gone.length : Int)).toNat = a + c.gone.length := by omega
  have e3 : (c.at_ + (c.came.length : Int)).toNat = a + c.came.length := by omega
  have hla : (t.take a).length = a := by rw [List.length_take]; omega
  have hlen : (c.done t).length = t.length - c.gone.length + c.came.length := Ch.done_len ⟨f1, f2, f3, f4⟩
  have hd : (c.done t).drop a = c.came ++ t.drop (a + c.gone.length) := by
    unfold Ch.done
    rw [e1, e2, List.append_assoc, List.drop_append_of_le_length (by omega), List.drop_of_length_le (by omega), List.nil_append]
  have hf : c.inv.fits (c.done t) := by
    refine ⟨f1, ?_, ?_, ?_⟩
    · show c.at_ ≤ _; omega
    · show (c.came.length : Int) ≤ _ - c.at_; omega
    · show ((c.done t).drop c.at_.toNat).take c.came.length = c.came
      rw [e1, hd, List.take_left']
      rfl
  refine ⟨⟨s2, s1, hf⟩, ?_⟩
  show (c.done t).take c.at_.toNat ++ c.gone ++ (c.done t).drop (c.at_ + (c.came.length : Int)).toNat = t
  rw [e1, e3]
  have h1 : (c.done t).take a = t.take a := by
    unfold Ch.done
    rw [e1, List.append_assoc, List.take_append_of_le_length (by omega), List.take_take, Nat.min_self]
  have h2 : (c.done t).drop (a + c.came.length) = t.drop (a + c.gone.length) := by
    rw [← List.drop_drop, hd, List.drop_left']
    rfl
  rw [h1, h2]
  rw [e1] at f4
  conv => rhs; rw [← List.take_append_drop a t]
  rw [List.append_assoc]
  congr 1
  conv => rhs; rw [← List.take_append_drop c.gone.length (t.drop a)]
  rw [f4, List.drop_drop]
theorem getD_app {l : List Ch} {x : Ch} : (l ++ [x]).getD l.length noCh = x := by simp [List.getD]
theorem getD_app_lt {l r : List Ch} {k : Nat} (h : k < l.length) : (l ++ r).getD k noCh = l.getD k noCh := by simp [List.getD, List.getElem?_append, h]
theorem walk_app {l r : List Ch} : ∀ {n : Nat} {t : List Int}, n ≤ l.length → walkN (l ++ r) n t = walkN l n t
  | 0, _, _ => rfl
  | n + 1, t, h => by simp only [walkN]; rw [getD_app_lt (by omega), walk_app (by omega)]
theorem walk_snoc {l : List Ch} {x : Ch} {t : List Int} : walkN (l ++ [x]) (l.length + 1) t = (decide (x.good t ∧ (x.done t).length ≤ 4096) && walkN l l.length (x.done t)) := by
  simp only [walkN]; rw [getD_app, walk_app (Nat.le_refl _)]
theorem walk_take {l : List Ch} {m : Nat} : ∀ {n : Nat} {t : List Int}, n ≤ m → walkN (l.take m) n t = walkN l n t
  | 0, _, _ => rfl
  | n + 1, t, h => by
    have e : (l.take m).getD n noCh = l.getD n noCh := by simp [List.getD, List.getElem?_take, show n < m by omega]
    simp only [walkN]; rw [e, walk_take (by omega)]
theorem walk_drop {l : List Ch} : ∀ {n : Nat} {t : List Int}, walkN l (n + 1) t = true → walkN (l.drop 1) n t = true
  | 0, _, _ => rfl
  | n + 1, t, h => by
    rw [walkN, Bool.and_eq_true] at h
    have e : (l.drop 1).getD n noCh = l.getD (n + 1) noCh := by simp [List.getD, List.getElem?_drop, Nat.add_comm]
    rw [walkN, e, Bool.and_eq_true]
    exact ⟨h.1, walk_drop h.2⟩
theorem right_of {s : St} (h1 : s.text.length ≤ 4096) (h2 : s.undo.length + s.redo.length ≤ 16) (h3 : scal s.text) (h4 : walkN (s.undo.map Ch.inv) s.undo.length s.text = true) (h5 : walkN s.redo s.redo.length s.text = true) : rightF s = 0 := by
  unfold rightF
  rw [if_neg (by omega), if_neg (fun h => h h3), if_neg (by rw [h4, h5]; simp)]
end Go.Proofs.YtdpflafjfkooeaaDoorG

/- A22: what Apply leaves may be. -/
namespace Go.Proofs.YtdpflafjfkooeaaDoorG
open Go Go.RowKit Go.Proofs
set_option linter.unusedSimpArgs false
set_option linter.unusedVariables false
theorem list_snoc {l : List Ch} (h : 0 < l.length) : l = l.take (l.length - 1) ++ [l.getD (l.length - 1) noCh] := by
  conv => lhs; rw [← List.take_append_drop (l.length - 1) l]
  congr 1
  rw [drop_getD (by omega), List.drop_of_length_le (by omega)]
theorem app_some {s : St} {o : Opn} (h : (appF s o).2 = 0) : ∃ c, effF s o = (c, 0) := by
  have h0 := app_zero h
  exact ⟨(effF s o).1, by rw [← h0]⟩
theorem right_app {s : St} {o : Opn} (hs : s.ok) (ho : o.ok) (h : (appF s o).2 = 0) : rightF (appF s o).1 = 0 := by
  obtain ⟨c, hI⟩ := app_some h
  obtain ⟨g1, g2, g3⟩ := eff_good hs ho hI
  obtain ⟨z1, z2, z3, z4, z5⟩ := right_zero (eff_zero hI)
  obtain ⟨u1, u2⟩ := undone g1
  unfold appF
  rw [hI, if_neg (fun h => h rfl)]
  split
  · rename_i hk
    have hl := eff_undo hI hk
    have hv := eff_undo_val hI hk
    rw [show ((s.undo.length : Int) - 1).toNat = s.undo.length - 1 by omega] at hv
    refine right_of g3 (by simp; omega) (scal_done g1 z3) ?_ ?_
    · have := walk_head (l := s.undo.map Ch.inv) (by simpa using z4) (by simpa using hl)
      rw [List.length_map, getD_inv, hv, inv_inv] at this
      rw [List.map_take, List.length_take, Nat.min_eq_left (by omega), walk_take (Nat.le_refl _)]
      exact this.2.2
    · show walkN (s.redo ++ [c.inv]) (s.redo ++ [c.inv]).length (c.done s.text) = true
      rw [List.length_append, List.length_cons, List.length_nil, walk_snoc, u2, decide_eq_true ⟨u1, z1⟩, z5]; rfl
  · split
    · rename_i hk3 hk
      have hl := eff_redo hI hk
      have hv := eff_redo_val hI hk
      rw [show ((s.redo.length : Int) - 1).toNat = s.redo.length - 1 by omega] at hv
      refine right_of g3 (by simp; omega) (scal_done g1 z3) ?_ ?_
      · show walkN ((s.undo ++ [c]).map Ch.inv) (s.undo ++ [c]).length (c.done s.text) = true
        rw [List.map_append, List.length_append, List.length_cons, List.length_nil]
        have := walk_snoc (l := s.undo.map Ch.inv) (x := c.inv) (t := c.done s.text)
        rw [List.length_map] at this
        show walkN (s.undo.map Ch.inv ++ [c.inv]) (s.undo.length + 1) _ = true
        rw [this, u2, decide_eq_true ⟨u1, z1⟩, z4]; rfl
      · have := walk_head z5 hl
        rw [hv] at this
        show walkN (s.redo.take (s.redo.length - 1)) (s.redo.take (s.redo.length - 1)).length (c.done s.text) = true
        rw [List.length_take, Nat.min_eq_left (by omega), walk_take (Nat.le_refl _)]
        exact this.2.2
    · rename_i hk3 hk4
      have hw : walkN ((s.undo ++ [c]).map Ch.inv) (s.undo.length + 1) (c.done s.text) = true := by
        have := walk_snoc (l := s.undo.map Ch.inv) (x := c.inv) (t := c.done s.text)
        rw [List.length_map] at this
        rw [List.map_append]
        show walkN (s.undo.map Ch.inv ++ [c.inv]) (s.undo.length + 1) _ = true
        rw [this, u2, decide_eq_true ⟨u1, z1⟩, z4]; rfl
      refine right_of g3 ?_ (scal_done g1 z3) ?_ rfl
      · show (if _ then _ else _ : List Ch).length + 0 ≤ 16
        split <;> simp <;> omega
      · show walkN ((if s.undo.length + 1 > 16 then (s.undo ++ [c]).drop 1 else s.undo ++ [c]).map Ch.inv) (if s.undo.length + 1 > 16 then (s.undo ++ [c]).drop 1 else s.undo ++ [c]).length (c.done s.text) = true
        split
        · rw [List.map_drop, List.length_drop, List.length_append, List.length_cons, List.length_nil]
          exact walk_drop hw
        · rw [List.length_append, List.length_cons, List.length_nil]; exact hw
end Go.Proofs.YtdpflafjfkooeaaDoorG

namespace Go.Proofs.YtdpflafjfkooeaaDoorG
open Go Go.RowKit Go.Proofs
set_option linter.unusedSimpArgs false
set_option linter.unusedVariables false
theorem memW {l : List Opn} {k : Nat} (h : k < l.length) : l.getD k noOp ∈ l := by simp [List.getD, List.getElem?_eq_getElem h]
structure WrI (l : List Opn) (s : Nat × St) : Prop where
  le : s.1 ≤ l.length
  l40 : s.1 ≤ 40
  ok : s.2.ok
  right : rightF s.2 = 0
theorem opC_or (o : Opn) : ((opF o).2 = 0 ∧ opC o = ((opF o).1.length : Int) + 14) ∨ (¬ (opF o).2 = 0 ∧ opC o = 0) := by
  unfold opC
  by_cases h : (opF o).2 = 0
  · exact .inl ⟨h, by rw [if_pos h]⟩
  · exact .inr ⟨h, by rw [if_neg h]⟩
theorem isI_mod (n : Int) : isI (n % 2147483648) = true := by unfold isI; exact decide_eq_true ⟨by omega, by omega⟩
theorem u64w (n : Int) : IntKind.u64.wrap n = n % 18446744073709551616 := by simp [IntKind.wrap, IntKind.bits, IntKind.signed]
theorem isI_w (n : Int) : isI (IntKind.i64.wrap ((IntKind.u64.wrap n).tmod 2147483648)) = true := by
  have h0 : 0 ≤ IntKind.u64.wrap n := by rw [u64w]; omega
  rw [Int.tmod_eq_emod_of_nonneg h0, wrap_in (by omega) (by omega)]
  exact decide_eq_true ⟨by omega, by omega⟩
set_option maxRecDepth 10000 in
set_option maxHeartbeats 16000000 in
theorem writes_law (l : List Opn) (n : Int) (hl : l.length ≤ 2000000) (h : ∀ o ∈ l, R32s o.text) (h2 : ∀ o ∈ l, o.text.length ≤ 2000000) : CallOk Tryd.prog 4 [sln 4 (ops l), i64 n] (bo true) [] true := by
  have w := works24_ok
  refine fn_ok' T_ok (orc_ok _) mixed Tryd.func4 rfl (by kernel_rfl) (lv [[0, 1], [0, 1, 18], [4], [0, 1, 5, 1000005], [0, 1, 5, 6], [0, 1, 5, 6, 27], [0, 1, 5, 6], [0, 1, 5, 6, 36], [4], [0, 1, 5, 6, 7, 8], [0, 1, 5, 6, 7, 8, 9, 10], [0, 1, 5, 6, 74], [4], [0, 1, 5, 6, 11, 12], [0, 1, 5, 6, 11, 85], [0, 1, 5, 6, 1000005], [1, 5, 13, 14], [13, 14, 15, 16], [4]]) 113 rfl (by simp) rfl (by simp [X.all, PX.all, TV.rawR, SV.isRaw]) ?_
  simp only [argsG, Nat.zero_add, Nat.reduceAdd]
  repeat' first
    | ((with_reducible refine vOps_cons' ?_)
       generalize hk : Kt _ _ _ _ _ _ _ _ _ = k
       simp only [Tryd.f4, lv, E1, E2, E5, ET, T, orc_mv, noO_mv, mvB, orc_bx, noO_bx, bxB, fwd, fwds, inv, mOk, Int.toNat_natCast, Nat.div_one, Nat.mul_one, Int.reduceToNat, List.not_mem_nil, true_or, or_true, true_and, and_true, decide_true, decide_false, Bool.and_self, Bool.or_self, ↓reduceIte, ne_eq, not_false_eq_true, not_true_eq_false, reduceCtorEq, Nat.reduceLT, Nat.reduceEqDiff, Nat.reduceAdd, Nat.reduceMul, Nat.reduceLeDiff, Nat.reduceDiv, Nat.reduceMod, Nat.reduceSub, Nat.reduceBEq, List.length_map, bs_len, rn_len, ops_len, ops_cnt, Opn.x, St.x, St.rx]
       try simp (disch := omega) only [wrap_in, Int.toNat_natCast, tv_rn, tv_op0, tv_op1, tv_op2, tv_op3]
       subst hk)
    | with_reducible refine Kt_p ?_
    | with_reducible refine Kt_i (by kernel_rfl) ?_
    | with_reducible refine Kr_f (by kernel_rfl) ?_
    | (with_reducible refine Kr_t ?_; simp only [List.length_append, List.length_cons, List.length_nil, Nat.reduceAdd, Nat.reduceSub, List.drop_succ_cons, List.drop_zero])
    | with_reducible refine vR_nil ?_
    | with_reducible refine KtR_i (by kernel_rfl) ?_
    | with_reducible refine KrR_i (by kernel_rfl) ?_
    | with_reducible refine vR_skip (by decide) ?_
    | ((with_reducible refine vR_cons (by decide) ?_)
       generalize hk : KtR _ _ _ _ _ _ _ _ _ _ = k
       simp only [Tryd.f4, lv, E1, E2, E5, ET, T, orc_mv, noO_mv, mvB, orc_bx, noO_bx, bxB, fwd, fwds, inv, mOk, Int.toNat_natCast, Nat.div_one, Nat.mul_one, Int.reduceToNat, List.not_mem_nil, true_or, or_true, true_and, and_true, decide_true, decide_false, Bool.and_self, Bool.or_self, ↓reduceIte, ne_eq, not_false_eq_true, not_true_eq_false, reduceCtorEq, Nat.reduceLT, Nat.reduceEqDiff, Nat.reduceAdd, Nat.reduceMul, Nat.reduceLeDiff, Nat.reduceDiv, Nat.reduceMod, Nat.reduceSub, Nat.reduceBEq, List.length_map, bs_len, rn_len, ops_len, ops_cnt, Opn.x, St.x, St.rx]
       try simp (disch := omega) only [wrap_in, Int.toNat_natCast, tv_rn, tv_op0, tv_op1, tv_op2, tv_op3]
       subst hk)
    | ((with_reducible refine vB_i ?_ ?_) <;> intro _ <;> (first | (exfalso; omega) | (exact absurd trivial ‹¬True›) | (try dsimp only [])))
    | ((with_reducible refine vOps_nil' ?_); refine Kr_i (by kernel_rfl) ?_; generalize hk : plain _ _ = G; simp only [lv, E3, E2, E5, rawX, deadX, List.not_mem_nil, true_or, or_true, true_and, and_true, decide_true, decide_false, Bool.and_self, Bool.or_self, ↓reduceIte, ne_eq, not_false_eq_true, not_true_eq_false, reduceCtorEq, Nat.reduceLT, Nat.reduceEqDiff, Nat.reduceAdd, Nat.reduceMul, Nat.reduceLeDiff, Nat.reduceDiv, Nat.reduceMod, Nat.reduceSub, Nat.reduceBEq, List.length_map, bs_len, rn_len, ops_len, ops_cnt, Opn.x, St.x, St.rx] at hk; subst hk)
    | with_reducible refine vSeq_i ?_
    | with_reducible refine vRegion_i (by kernel_rfl) ?_
    | with_reducible refine Kv_i ?_
    | ((with_reducible apply vStrK_i); (focus (rfl; done)))
    | ((with_reducible refine imp_i ?_); intro _)
    | with_reducible refine Ks_n ?_
    | with_reducible refine Ks_r ?_
    | with_reducible refine Ks_e ?_
    | with_reducible refine Kl_e ?_
    | with_reducible refine Kx_n ?_
    | with_reducible refine Kl_r ?_
    | with_reducible refine vRet_i ?_
    | with_reducible refine vSkip_i ?_
    | with_reducible refine vExit_i ?_
    | with_reducible refine vBlock_i ?_
    | with_reducible refine Ks_p ?_
    | with_reducible refine Kl_p ?_
    | with_reducible refine blk_p ?_
    | with_reducible exact Kb_p
    | with_reducible refine vGoto_i ?_
    | with_reducible refine vLabel_i ?_
    | with_reducible refine Ks_g ?_
    | with_reducible refine Kl_g ?_
    | with_reducible refine blk_g ?_
    | with_reducible refine jmp_g ?_
    | with_reducible refine jmp_n ?_
    | with_reducible refine jmp_r ?_
    | with_reducible refine nog_n ?_
    | with_reducible refine nog_r ?_
    | with_reducible refine blk_n ?_
    | with_reducible refine blk_r ?_
    | with_reducible refine blk_e ?_
    | with_reducible refine blk_o (by decide) ?_
    | ((with_reducible refine vCond_t ?_ ?_); (focus (simp only [lv, E1, E2, E5, ET, T, orc_mv, noO_mv, mvB, orc_bx, noO_bx, bxB, fwd, fwds, inv, mOk, Int.toNat_natCast, Nat.div_one, Nat.mul_one, Int.reduceToNat, List.not_mem_nil, true_or, or_true, true_and, and_true, decide_true, decide_false, Bool.and_self, Bool.or_self, ↓reduceIte, ne_eq, not_false_eq_true, not_true_eq_false, reduceCtorEq, Nat.reduceLT, Nat.reduceEqDiff, Nat.reduceAdd, Nat.reduceMul, Nat.reduceLeDiff, Nat.reduceDiv, Nat.reduceMod, Nat.reduceSub, Nat.reduceBEq, List.length_map, bs_len, rn_len, ops_len, ops_cnt, Opn.x, St.x, St.rx]; done)))
    | ((with_reducible refine vCond_f ?_ ?_); (focus (simp only [lv, E1, E2, E5, ET, T, orc_mv, noO_mv, mvB, orc_bx, noO_bx, bxB, fwd, fwds, inv, mOk, Int.toNat_natCast, Nat.div_one, Nat.mul_one, Int.reduceToNat, List.not_mem_nil, true_or, or_true, true_and, and_true, decide_true, decide_false, Bool.and_self, Bool.or_self, ↓reduceIte, ne_eq, not_false_eq_true, not_true_eq_false, reduceCtorEq, Nat.reduceLT, Nat.reduceEqDiff, Nat.reduceAdd, Nat.reduceMul, Nat.reduceLeDiff, Nat.reduceDiv, Nat.reduceMod, Nat.reduceSub, Nat.reduceBEq, List.length_map, bs_len, rn_len, ops_len, ops_cnt, Opn.x, St.x, St.rx]; done)))
    | ((with_reducible refine And.intro ?_ ?_); (focus (try omega)))
    | ((with_reducible apply orc_b); (focus (exact w; done)); (all_goals (intro hb; (try simp only [decide_eq_true_eq, decide_eq_false_iff_not, Bool.not_eq_true', Bool.not_eq_false', Bool.and_eq_true, Decidable.not_not] at hb); (generalize hk : Kt _ _ _ _ _ _ _ _ _ = k; simp only [lv, E1, E2, E5, ET, T, orc_mv, noO_mv, mvB, orc_bx, noO_bx, bxB, fwd, fwds, inv, mOk, Int.toNat_natCast, Nat.div_one, Nat.mul_one, Int.reduceToNat, List.not_mem_nil, true_or, or_true, true_and, and_true, decide_true, decide_false, Bool.and_self, Bool.or_self, ↓reduceIte, ne_eq, not_false_eq_true, not_true_eq_false, reduceCtorEq, Nat.reduceLT, Nat.reduceEqDiff, Nat.reduceAdd, Nat.reduceMul, Nat.reduceLeDiff, Nat.reduceDiv, Nat.reduceMod, Nat.reduceSub, Nat.reduceBEq, List.length_map, bs_len, rn_len, ops_len, ops_cnt, Opn.x, St.x, St.rx]; (try simp (disch := omega) only [wrap_in, Int.toNat_natCast, tv_rn, tv_op0, tv_op1, tv_op2, tv_op3]); subst hk))))
  rotate_left
  · exact absurd hb (by decide)
  refine vLoop_s (fun s : Nat × St => [(.t 0, .t (sln 4 (ops l))), (.t 1, .t (i64 n)), (.t 5, .t (.p (.one (.pr 0 0)))), (.t 6, .t (i64 s.1)), (.box 0, .box 29 [.v (.sl 1 (rn s.2.text)), .v (.sl 3 (chs s.2.undo)), .v (.sl 3 (chs s.2.redo))])])
    (WrI l) (fun s => l.length - s.1) (0, noSt) ⟨by simp only []; omega, by simp only []; omega, okN, by decide⟩ rfl ?_
  rintro ⟨k, s⟩ hI
  obtain ⟨hk, hk4, hs, hr⟩ := hI
  simp only [] at hk hk4 hs hr
  have hle := opF_le (l.getD k noOp)
  have hC := opC_or (l.getD k noOp)
  have e0 : (stF 0 s).2 = 0 := by rw [st_err, hr]
  have em := isI_w n
  have e1 : (stF (IntKind.i64.wrap ((IntKind.u64.wrap n).tmod 2147483648)) s).2 = 0 := by rw [stF_ok em hr]
  have e2 : stC s = ((stF (IntKind.i64.wrap ((IntKind.u64.wrap n).tmod 2147483648)) s).1.length : Int) := by rw [stC_ok hr, st_len em hr]
  repeat' first
    | ((with_reducible refine vOps_cons' ?_)
       generalize hk : Kt _ _ _ _ _ _ _ _ _ = k
       simp only [Tryd.f4, lv, E1, E2, E5, ET, T, orc_mv, noO_mv, mvB, orc_bx, noO_bx, bxB, fwd, fwds, inv, mOk, Int.toNat_natCast, Nat.div_one, Nat.mul_one, Int.reduceToNat, List.not_mem_nil, true_or, or_true, true_and, and_true, decide_true, decide_false, Bool.and_self, Bool.or_self, ↓reduceIte, ne_eq, not_false_eq_true, not_true_eq_false, reduceCtorEq, Nat.reduceLT, Nat.reduceEqDiff, Nat.reduceAdd, Nat.reduceMul, Nat.reduceLeDiff, Nat.reduceDiv, Nat.reduceMod, Nat.reduceSub, Nat.reduceBEq, List.length_map, bs_len, rn_len, ops_len, ops_cnt, Opn.x, St.x, St.rx]
       try simp (disch := omega) only [wrap_in, Int.toNat_natCast, tv_rn, tv_op0, tv_op1, tv_op2, tv_op3]
       subst hk)
    | with_reducible refine Kt_p ?_
    | with_reducible refine Kt_i (by kernel_rfl) ?_
    | with_reducible refine Kr_f (by kernel_rfl) ?_
    | (with_reducible refine Kr_t ?_; simp only [List.length_append, List.length_cons, List.length_nil, Nat.reduceAdd, Nat.reduceSub, List.drop_succ_cons, List.drop_zero])
    | with_reducible refine vR_nil ?_
    | with_reducible refine KtR_i (by kernel_rfl) ?_
    | with_reducible refine KrR_i (by kernel_rfl) ?_
    | with_reducible refine vR_skip (by decide) ?_
    | ((with_reducible refine vR_cons (by decide) ?_)
       generalize hk : KtR _ _ _ _ _ _ _ _ _ _ = k
       simp only [Tryd.f4, lv, E1, E2, E5, ET, T, orc_mv, noO_mv, mvB, orc_bx, noO_bx, bxB, fwd, fwds, inv, mOk, Int.toNat_natCast, Nat.div_one, Nat.mul_one, Int.reduceToNat, List.not_mem_nil, true_or, or_true, true_and, and_true, decide_true, decide_false, Bool.and_self, Bool.or_self, ↓reduceIte, ne_eq, not_false_eq_true, not_true_eq_false, reduceCtorEq, Nat.reduceLT, Nat.reduceEqDiff, Nat.reduceAdd, Nat.reduceMul, Nat.reduceLeDiff, Nat.reduceDiv, Nat.reduceMod, Nat.reduceSub, Nat.reduceBEq, List.length_map, bs_len, rn_len, ops_len, ops_cnt, Opn.x, St.x, St.rx]
       try simp (disch := omega) only [wrap_in, Int.toNat_natCast, tv_rn, tv_op0, tv_op1, tv_op2, tv_op3]
       subst hk)
    | ((with_reducible refine vB_i ?_ ?_) <;> intro _ <;> (first | (exfalso; omega) | (exact absurd trivial ‹¬True›) | (try dsimp only [])))
    | ((with_reducible refine vOps_nil' ?_); refine Kr_i (by kernel_rfl) ?_; generalize hk : plain _ _ = G; simp only [lv, E3, E2, E5, rawX, deadX, List.not_mem_nil, true_or, or_true, true_and, and_true, decide_true, decide_false, Bool.and_self, Bool.or_self, ↓reduceIte, ne_eq, not_false_eq_true, not_true_eq_false, reduceCtorEq, Nat.reduceLT, Nat.reduceEqDiff, Nat.reduceAdd, Nat.reduceMul, Nat.reduceLeDiff, Nat.reduceDiv, Nat.reduceMod, Nat.reduceSub, Nat.reduceBEq, List.length_map, bs_len, rn_len, ops_len, ops_cnt, Opn.x, St.x, St.rx] at hk; subst hk)
    | with_reducible refine vSeq_i ?_
    | with_reducible refine vRegion_i (by kernel_rfl) ?_
    | with_reducible refine Kv_i ?_
    | ((with_reducible apply vStrK_i); (focus (rfl; done)))
    | ((with_reducible refine imp_i ?_); intro _)
    | with_reducible refine Ks_n ?_
    | with_reducible refine Ks_r ?_
    | with_reducible refine Ks_e ?_
    | with_reducible refine Kl_e ?_
    | with_reducible refine Kx_n ?_
    | with_reducible refine Kl_r ?_
    | with_reducible refine vRet_i ?_
    | with_reducible refine vSkip_i ?_
    | with_reducible refine vExit_i ?_
    | with_reducible refine vBlock_i ?_
    | with_reducible refine Ks_p ?_
    | with_reducible refine Kl_p ?_
    | with_reducible refine blk_p ?_
    | with_reducible exact Kb_p
    | with_reducible refine vGoto_i ?_
    | with_reducible refine vLabel_i ?_
    | with_reducible refine Ks_g ?_
    | with_reducible refine Kl_g ?_
    | with_reducible refine blk_g ?_
    | with_reducible refine jmp_g ?_
    | with_reducible refine jmp_n ?_
    | with_reducible refine jmp_r ?_
    | with_reducible refine nog_n ?_
    | with_reducible refine nog_r ?_
    | with_reducible refine blk_n ?_
    | with_reducible refine blk_r ?_
    | with_reducible refine blk_e ?_
    | with_reducible refine blk_o (by decide) ?_
    | ((with_reducible refine vCond_t ?_ ?_); (focus (simp only [lv, E1, E2, E5, ET, T, orc_mv, noO_mv, mvB, orc_bx, noO_bx, bxB, fwd, fwds, inv, mOk, Int.toNat_natCast, Nat.div_one, Nat.mul_one, Int.reduceToNat, List.not_mem_nil, true_or, or_true, true_and, and_true, decide_true, decide_false, Bool.and_self, Bool.or_self, ↓reduceIte, ne_eq, not_false_eq_true, not_true_eq_false, reduceCtorEq, Nat.reduceLT, Nat.reduceEqDiff, Nat.reduceAdd, Nat.reduceMul, Nat.reduceLeDiff, Nat.reduceDiv, Nat.reduceMod, Nat.reduceSub, Nat.reduceBEq, List.length_map, bs_len, rn_len, ops_len, ops_cnt, Opn.x, St.x, St.rx]; done)))
    | ((with_reducible refine vCond_f ?_ ?_); (focus (simp only [lv, E1, E2, E5, ET, T, orc_mv, noO_mv, mvB, orc_bx, noO_bx, bxB, fwd, fwds, inv, mOk, Int.toNat_natCast, Nat.div_one, Nat.mul_one, Int.reduceToNat, List.not_mem_nil, true_or, or_true, true_and, and_true, decide_true, decide_false, Bool.and_self, Bool.or_self, ↓reduceIte, ne_eq, not_false_eq_true, not_true_eq_false, reduceCtorEq, Nat.reduceLT, Nat.reduceEqDiff, Nat.reduceAdd, Nat.reduceMul, Nat.reduceLeDiff, Nat.reduceDiv, Nat.reduceMod, Nat.reduceSub, Nat.reduceBEq, List.length_map, bs_len, rn_len, ops_len, ops_cnt, Opn.x, St.x, St.rx]; done)))
    | ((with_reducible refine And.intro ?_ ?_); (focus (try omega)))
    | ((with_reducible apply orc_i); (focus (exact wop_ok (l.getD k noOp) (h _ (memW (by omega))) (h2 _ (memW (by omega))); done)); (generalize hk : Kt _ _ _ _ _ _ _ _ _ = k; simp only [lv, E1, E2, E5, ET, T, orc_mv, noO_mv, mvB, orc_bx, noO_bx, bxB, fwd, fwds, inv, mOk, Int.toNat_natCast, Nat.div_one, Nat.mul_one, Int.reduceToNat, List.not_mem_nil, true_or, or_true, true_and, and_true, decide_true, decide_false, Bool.and_self, Bool.or_self, ↓reduceIte, ne_eq, not_false_eq_true, not_true_eq_false, reduceCtorEq, Nat.reduceLT, Nat.reduceEqDiff, Nat.reduceAdd, Nat.reduceMul, Nat.reduceLeDiff, Nat.reduceDiv, Nat.reduceMod, Nat.reduceSub, Nat.reduceBEq, List.length_map, bs_len, rn_len, ops_len, ops_cnt, Opn.x, St.x, St.rx]; (try simp (disch := omega) only [wrap_in, Int.toNat_natCast, tv_rn, tv_op0, tv_op1, tv_op2, tv_op3]); subst hk))
    | ((with_reducible apply orc_i); (focus (exact costOp_ok (l.getD k noOp) (h _ (memW (by omega))) (h2 _ (memW (by omega))); done)); (generalize hk : Kt _ _ _ _ _ _ _ _ _ = k; simp only [lv, E1, E2, E5, ET, T, orc_mv, noO_mv, mvB, orc_bx, noO_bx, bxB, fwd, fwds, inv, mOk, Int.toNat_natCast, Nat.div_one, Nat.mul_one, Int.reduceToNat, List.not_mem_nil, true_or, or_true, true_and, and_true, decide_true, decide_false, Bool.and_self, Bool.or_self, ↓reduceIte, ne_eq, not_false_eq_true, not_true_eq_false, reduceCtorEq, Nat.reduceLT, Nat.reduceEqDiff, Nat.reduceAdd, Nat.reduceMul, Nat.reduceLeDiff, Nat.reduceDiv, Nat.reduceMod, Nat.reduceSub, Nat.reduceBEq, List.length_map, bs_len, rn_len, ops_len, ops_cnt, Opn.x, St.x, St.rx]; (try simp (disch := omega) only [wrap_in, Int.toNat_natCast, tv_rn, tv_op0, tv_op1, tv_op2, tv_op3]); subst hk))
    | ((with_reducible apply orc_i); (focus (exact apply_ok goes_ok s (l.getD k noOp) hs ⟨by omega, h _ (memW (by omega))⟩; done)); (generalize hk : Kt _ _ _ _ _ _ _ _ _ = k; simp only [lv, E1, E2, E5, ET, T, orc_mv, noO_mv, mvB, orc_bx, noO_bx, bxB, fwd, fwds, inv, mOk, Int.toNat_natCast, Nat.div_one, Nat.mul_one, Int.reduceToNat, List.not_mem_nil, true_or, or_true, true_and, and_true, decide_true, decide_false, Bool.and_self, Bool.or_self, ↓reduceIte, ne_eq, not_false_eq_true, not_true_eq_false, reduceCtorEq, Nat.reduceLT, Nat.reduceEqDiff, Nat.reduceAdd, Nat.reduceMul, Nat.reduceLeDiff, Nat.reduceDiv, Nat.reduceMod, Nat.reduceSub, Nat.reduceBEq, List.length_map, bs_len, rn_len, ops_len, ops_cnt, Opn.x, St.x, St.rx]; (try simp (disch := omega) only [wrap_in, Int.toNat_natCast, tv_rn, tv_op0, tv_op1, tv_op2, tv_op3]); subst hk))
    | ((with_reducible apply orc_i); (focus (exact costState_ok s hs; done)); (generalize hk : Kt _ _ _ _ _ _ _ _ _ = k; simp only [lv, E1, E2, E5, ET, T, orc_mv, noO_mv, mvB, orc_bx, noO_bx, bxB, fwd, fwds, inv, mOk, Int.toNat_natCast, Nat.div_one, Nat.mul_one, Int.reduceToNat, List.not_mem_nil, true_or, or_true, true_and, and_true, decide_true, decide_false, Bool.and_self, Bool.or_self, ↓reduceIte, ne_eq, not_false_eq_true, not_true_eq_false, reduceCtorEq, Nat.reduceLT, Nat.reduceEqDiff, Nat.reduceAdd, Nat.reduceMul, Nat.reduceLeDiff, Nat.reduceDiv, Nat.reduceMod, Nat.reduceSub, Nat.reduceBEq, List.length_map, bs_len, rn_len, ops_len, ops_cnt, Opn.x, St.x, St.rx]; (try simp (disch := omega) only [wrap_in, Int.toNat_natCast, tv_rn, tv_op0, tv_op1, tv_op2, tv_op3]); subst hk))
    | ((with_reducible apply orc_i); (focus (exact wstate_ok _ s hs; done)); (generalize hk : Kt _ _ _ _ _ _ _ _ _ = k; simp only [lv, E1, E2, E5, ET, T, orc_mv, noO_mv, mvB, orc_bx, noO_bx, bxB, fwd, fwds, inv, mOk, Int.toNat_natCast, Nat.div_one, Nat.mul_one, Int.reduceToNat, List.not_mem_nil, true_or, or_true, true_and, and_true, decide_true, decide_false, Bool.and_self, Bool.or_self, ↓reduceIte, ne_eq, not_false_eq_true, not_true_eq_false, reduceCtorEq, Nat.reduceLT, Nat.reduceEqDiff, Nat.reduceAdd, Nat.reduceMul, Nat.reduceLeDiff, Nat.reduceDiv, Nat.reduceMod, Nat.reduceSub, Nat.reduceBEq, List.length_map, bs_len, rn_len, ops_len, ops_cnt, Opn.x, St.x, St.rx]; (try simp (disch := omega) only [wrap_in, Int.toNat_natCast, tv_rn, tv_op0, tv_op1, tv_op2, tv_op3]); subst hk))
  all_goals first
    | (exfalso; omega)
    | (rename_i ha
       first
         | (refine Kl_n ⟨(k + 1, (appF s (l.getD k noOp)).1), ⟨by simp only []; omega, by simp only []; omega, app_ok hs ⟨by omega, h _ (memW (by omega))⟩ ha, right_app hs ⟨by omega, h _ (memW (by omega))⟩ ha⟩, by simp only []; omega, ?_⟩
            simp only [Int.natCast_add, Int.natCast_one]
            done)
         | (refine Kl_n ⟨(k + 1, s), ⟨by simp only []; omega, by simp only []; omega, hs, hr⟩, by simp only []; omega, ?_⟩
            simp only [Int.natCast_add, Int.natCast_one]
            done))
    | (refine Kf_r ?_; simp only [Tryd.f4, E4, E3, E2, E5, rawX, deadX, ET, T, List.not_mem_nil, true_or, or_true, true_and, and_true, decide_true, decide_false, Bool.and_self, Bool.or_self, ↓reduceIte, ne_eq, not_false_eq_true, not_true_eq_false, reduceCtorEq, Nat.reduceLT, Nat.reduceEqDiff, Nat.reduceAdd, Nat.reduceMul, Nat.reduceLeDiff, Nat.reduceDiv, Nat.reduceMod, Nat.reduceSub, Nat.reduceBEq, List.length_map, bs_len, rn_len, ops_len, ops_cnt, Opn.x, St.x, St.rx]; done)
    | (exfalso; contradiction)
end Go.Proofs.YtdpflafjfkooeaaDoorG
