/- YtdpflafjfkooeaaGreatDoorZ14: a part of the proof, joined of its texts. -/
import Derived.Test.YtdpflafjfkooeaaGreatDoorZ13
namespace Go.Proofs.YtdpflafjfkooeaaGreatDoorG
open Go Go.RowKit Go.Proofs
set_option linter.unusedSimpArgs false
theorem rn_raw {l : List Int} : ∀ x ∈ rn l, x.isRaw = true := by
  intro x hx; obtain ⟨n, _, rfl⟩ := List.mem_map.1 hx; rfl
theorem eq_of_getD {a b : List Int} (hl : a.length = b.length) (h : ∀ i, i < a.length → a.getD i 0 = b.getD i 0) : a = b := by
  refine List.ext_getElem hl fun i h1 h2 => ?_
  have := h i h1
  simpa [List.getD, List.getElem?_eq_getElem h1, List.getElem?_eq_getElem h2] using this
set_option maxRecDepth 10000 in
theorem equal_ok (a b : List Int) (ha : a.length ≤ 2000000) (hb : b.length ≤ 2000000) : CallOk Tryz.prog 88 [sl (rn a), sl (rn b)] (bo (decide (a = b))) [] true := by
  refine fn_ok' T_ok (orc_ok _) mixed Tryz.func88 rfl (by kernel_rfl) (lv [[0, 1], [0, 1, 10], [4], [0, 1, 12, 13], [0, 1, 12, 13, 14], [0, 1, 5, 12, 13], [0, 1, 12, 13, 24], [4], [0, 1, 12, 13], [4]]) 26 rfl (by simp) rfl (by simp [X.all, PX.all, TV.rawR, SV.isRaw]) ?_
  simp only [argsG, Nat.zero_add, Nat.reduceAdd]
  repeat' first
    | ((first
        | ((with_reducible refine vR_cons (by decide) ?_); generalize hk : KtR _ _ _ _ _ _ _ _ _ _ = k)
        | ((first
        | with_reducible refine vOps_cons' ?_) <;> generalize hk : Kt _ _ _ _ _ _ _ _ _ = k)) <;> (simp only [Tryz.f88, lv, E1, E2, E5, ET, T, mvB, bxB, sxB, rxB, fwd, fwds, inv, mOk, EB, simprocAttr, rn_len, List.length_map]; (try simp (disch := omega) only [wrap_in, Int.toNat_natCast, tv_rn]); subst hk))
    | with_reducible first | refine Kt_p ?_ | refine Kt_i (by kernel_rfl) ?_ | refine Kr_f (by kernel_rfl) ?_
    | (with_reducible refine Kr_t ?_; simp only [List.length_append, List.length_cons, List.length_nil, Nat.reduceAdd, Nat.reduceSub, List.drop_succ_cons, List.drop_zero])
    | with_reducible first | refine vR_nil ?_ | refine KtR_i (by kernel_rfl) ?_ | refine KrR_i (by kernel_rfl) ?_ | refine vR_skip (by decide) ?_
    | ((with_reducible refine vB_i ?_ ?_) <;> intro _ <;> (first | (exfalso; omega) | (exact absurd trivial ‹¬True›) | (try dsimp only [])))
    | ((with_reducible refine vOps_nil' ?_); refine Kr_i (by kernel_rfl) ?_; generalize hk : plain _ _ = G; simp only [lv, E3, E2, E5, rawX, deadX, EB, simprocAttr, rn_len, List.length_map] at hk; subst hk)
    | with_reducible refine vSeq_i ?_
    | with_reducible first | refine vRegion_i (by kernel_rfl) ?_ | refine Kv_i ?_
    | ((with_reducible apply vStrK_i); (focus (rfl; done)))
    | ((with_reducible refine imp_i ?_); intro _)
    | with_reducible first | refine Ks_n ?_ | refine Ks_r ?_ | refine Ks_e ?_ | refine Kl_e ?_ | refine Kx_n ?_ | refine Kl_r ?_ | refine vRet_i ?_ | refine vSkip_i ?_ | refine vExit_i ?_ | refine vBlock_i ?_ | refine Ks_p ?_ | refine Kl_p ?_ | refine blk_p ?_ | exact Kb_p | refine vGoto_i ?_ | refine vLabel_i ?_ | refine Ks_g ?_ | refine Kl_g ?_ | refine blk_g ?_ | refine jmp_g ?_ | refine jmp_n ?_ | refine jmp_r ?_ | refine nog_n ?_ | refine nog_r ?_ | refine blk_n ?_ | refine blk_r ?_ | refine blk_e ?_ | refine blk_o (by decide) ?_ | refine cp_t ?_ | refine cp_f ?_
    | ((with_reducible apply vCond_x); (focus (simp only [lv, E1, E2, E5, ET, T, mvB, bxB, sxB, rxB, fwd, fwds, inv, mOk, EB, simprocAttr, rn_len, List.length_map]; with_reducible first | exact Eq.refl (bo true) | exact Eq.refl (bo false))))
    | ((with_reducible refine And.intro ?_ ?_); (focus (try omega)))
  · rename_i hc
    have hc' : a.length = b.length := by omega
    refine vLoop_s (fun k : Nat => [(.t 0, .t (sl (rn a))), (.t 1, .t (sl (rn b))), (.t 12, .t (i64 a.length)), (.t 13, .t (i64 k))]) (fun k => k ≤ a.length ∧ ∀ i, i < k → a.getD i 0 = b.getD i 0) (fun k => a.length - k) 0 ⟨by omega, by omega⟩ rfl ?_
    rintro k ⟨hk, hlt⟩
    repeat' first
      | ((first
          | ((with_reducible refine vR_cons (by decide) ?_); generalize hk : KtR _ _ _ _ _ _ _ _ _ _ = k)
          | ((first
          | with_reducible refine vOps_cons' ?_) <;> generalize hk : Kt _ _ _ _ _ _ _ _ _ = k)) <;> (simp only [Tryz.f88, lv, E1, E2, E5, ET, T, mvB, bxB, sxB, rxB, fwd, fwds, inv, mOk, EB, simprocAttr, rn_len, List.length_map]; (try simp (disch := omega) only [wrap_in, Int.toNat_natCast, tv_rn]); subst hk))
      | with_reducible first | refine Kt_p ?_ | refine Kt_i (by kernel_rfl) ?_ | refine Kr_f (by kernel_rfl) ?_
      | (with_reducible refine Kr_t ?_; simp only [List.length_append, List.length_cons, List.length_nil, Nat.reduceAdd, Nat.reduceSub, List.drop_succ_cons, List.drop_zero])
      | with_reducible first | refine vR_nil ?_ | refine KtR_i (by kernel_rfl) ?_ | refine KrR_i (by kernel_rfl) ?_ | refine vR_skip (by decide) ?_
      | ((with_reducible refine vB_i ?_ ?_) <;> intro _ <;> (first | (exfalso; omega) | (exact absurd trivial ‹¬True›) | (try dsimp only [])))
      | ((with_reducible refine vOps_nil' ?_); refine Kr_i (by kernel_rfl) ?_; generalize hk : plain _ _ = G; simp only [lv, E3, E2, E5, rawX, deadX, EB, simprocAttr, rn_len, List.length_map] at hk; subst hk)
      | with_reducible refine vSeq_i ?_
      | with_reducible first | refine vRegion_i (by kernel_rfl) ?_ | refine Kv_i ?_
      | ((with_reducible apply vStrK_i); (focus (rfl; done)))
      | ((with_reducible refine imp_i ?_); intro _)
      | with_reducible first | refine Ks_n ?_ | refine Ks_r ?_ | refine Ks_e ?_ | refine Kl_e ?_ | refine Kx_n ?_ | refine Kl_r ?_ | refine vRet_i ?_ | refine vSkip_i ?_ | refine vExit_i ?_ | refine vBlock_i ?_ | refine Ks_p ?_ | refine Kl_p ?_ | refine blk_p ?_ | exact Kb_p | refine vGoto_i ?_ | refine vLabel_i ?_ | refine Ks_g ?_ | refine Kl_g ?_ | refine blk_g ?_ | refine jmp_g ?_ | refine jmp_n ?_ | refine jmp_r ?_ | refine nog_n ?_ | refine nog_r ?_ | refine blk_n ?_ | refine blk_r ?_ | refine blk_e ?_ | refine blk_o (by decide) ?_ | refine cp_t ?_ | refine cp_f ?_
      | ((with_reducible apply vCond_x); (focus (simp only [lv, E1, E2, E5, ET, T, mvB, bxB, sxB, rxB, fwd, fwds, inv, mOk, EB, simprocAttr, rn_len, List.length_map]; with_reducible first | exact Eq.refl (bo true) | exact Eq.refl (bo false))))
      | ((with_reducible refine And.intro ?_ ?_); (focus (try omega)))
    · rename_i heq
      exact Kl_n ⟨k + 1, ⟨by omega, fun i hi => by rcases Nat.lt_or_eq_of_le (Nat.le_of_lt_succ hi) with h1 | h1; exact hlt i h1; exact h1 ▸ heq⟩, by omega, by simp only [Int.natCast_add, Int.natCast_one]⟩
    · refine Kf_r ?_
      simp only [Tryz.f88, E4, E3, E2, E5, rawX, deadX, ET, T, EB, simprocAttr, rn_len, List.length_map, X.p.injEq, X.tup.injEq, PX.one.injEq, PX.agg.injEq, TV.v.injEq, TV.sr.injEq, SV.raw.injEq, SV.sl.injEq, Value.bool.injEq, Value.int.injEq, List.cons.injEq, Prod.mk.injEq, true_and, and_true, and_self]
      rename_i hne
      symm; simp only [decide_eq_false_iff_not]
      intro e; subst e; exact hne rfl
    · refine Kf_r ?_
      simp only [Tryz.f88, E4, E3, E2, E5, rawX, deadX, ET, T, EB, simprocAttr, rn_len, List.length_map, X.p.injEq, X.tup.injEq, PX.one.injEq, PX.agg.injEq, TV.v.injEq, TV.sr.injEq, SV.raw.injEq, SV.sl.injEq, Value.bool.injEq, Value.int.injEq, List.cons.injEq, Prod.mk.injEq, true_and, and_true, and_self]
      symm; simp only [decide_eq_true_eq]
      exact eq_of_getD hc' fun i hi => hlt i (by omega)
  · refine Kf_r ?_
    simp only [Tryz.f88, E4, E3, E2, E5, rawX, deadX, ET, T, EB, simprocAttr, rn_len, List.length_map, X.p.injEq, X.tup.injEq, PX.one.injEq, PX.agg.injEq, TV.v.injEq, TV.sr.injEq, SV.raw.injEq, SV.sl.injEq, Value.bool.injEq, Value.int.injEq, List.cons.injEq, Prod.mk.injEq, true_and, and_true, and_self]
    rename_i hc
    symm; simp only [decide_eq_false_iff_not]
    intro e; subst e; exact hc rfl
set_option maxRecDepth 10000 in
theorem same_ok (a b : List Int) (ha : a.length ≤ 2000000) (hb : b.length ≤ 2000000) : CallOk Tryz.prog 17 [sl (rn a), sl (rn b)] (bo (decide (a = b))) [] true := by
  refine fn_ok' T_ok (orc_ok _) mixed Tryz.func17 rfl (by kernel_rfl) (lv [[0, 1], [0, 1, 10], [4], [0, 1, 5], [0, 1, 5, 14], [0, 1, 5], [0, 1, 5, 25], [4], [4]]) 26 rfl (by simp) rfl (by simp [X.all, PX.all, TV.rawR, SV.isRaw]) ?_
  simp only [argsG, Nat.zero_add, Nat.reduceAdd]
  repeat' first
    | ((first
        | ((with_reducible refine vR_cons (by decide) ?_); generalize hk : KtR _ _ _ _ _ _ _ _ _ _ = k)
        | ((first
        | with_reducible refine vOps_cons' ?_) <;> generalize hk : Kt _ _ _ _ _ _ _ _ _ = k)) <;> (simp only [Tryz.f17, lv, E1, E2, E5, ET, T, mvB, bxB, sxB, rxB, fwd, fwds, inv, mOk, EB, simprocAttr, rn_len, List.length_map]; (try simp (disch := omega) only [wrap_in, Int.toNat_natCast, tv_rn]); subst hk))
    | with_reducible first | refine Kt_p ?_ | refine Kt_i (by kernel_rfl) ?_ | refine Kr_f (by kernel_rfl) ?_
    | (with_reducible refine Kr_t ?_; simp only [List.length_append, List.length_cons, List.length_nil, Nat.reduceAdd, Nat.reduceSub, List.drop_succ_cons, List.drop_zero])
    | with_reducible first | refine vR_nil ?_ | refine KtR_i (by kernel_rfl) ?_ | refine KrR_i (by kernel_rfl) ?_ | refine vR_skip (by decide) ?_
    | ((with_reducible refine vB_i ?_ ?_) <;> intro _ <;> (first | (exfalso; omega) | (exact absurd trivial ‹¬True›) | (try dsimp only [])))
    | ((with_reducible refine vOps_nil' ?_); refine Kr_i (by kernel_rfl) ?_; generalize hk : plain _ _ = G; simp only [lv, E3, E2, E5, rawX, deadX, EB, simprocAttr, rn_len, List.length_map] at hk; subst hk)
    | with_reducible refine vSeq_i ?_
    | with_reducible first | refine vRegion_i (by kernel_rfl) ?_ | refine Kv_i ?_
    | ((with_reducible apply vStrK_i); (focus (rfl; done)))
    | ((with_reducible refine imp_i ?_); intro _)
    | with_reducible first | refine Ks_n ?_ | refine Ks_r ?_ | refine Ks_e ?_ | refine Kl_e ?_ | refine Kx_n ?_ | refine Kl_r ?_ | refine vRet_i ?_ | refine vSkip_i ?_ | refine vExit_i ?_ | refine vBlock_i ?_ | refine Ks_p ?_ | refine Kl_p ?_ | refine blk_p ?_ | exact Kb_p | refine vGoto_i ?_ | refine vLabel_i ?_ | refine Ks_g ?_ | refine Kl_g ?_ | refine blk_g ?_ | refine jmp_g ?_ | refine jmp_n ?_ | refine jmp_r ?_ | refine nog_n ?_ | refine nog_r ?_ | refine blk_n ?_ | refine blk_r ?_ | refine blk_e ?_ | refine blk_o (by decide) ?_ | refine cp_t ?_ | refine cp_f ?_
    | ((with_reducible apply vCond_x); (focus (simp only [lv, E1, E2, E5, ET, T, mvB, bxB, sxB, rxB, fwd, fwds, inv, mOk, EB, simprocAttr, rn_len, List.length_map]; with_reducible first | exact Eq.refl (bo true) | exact Eq.refl (bo false))))
    | ((with_reducible refine And.intro ?_ ?_); (focus (try omega)))
  · rename_i hc
    have hc' : a.length = b.length := by omega
    refine vLoop_s (fun k : Nat => [(.t 0, .t (sl (rn a))), (.t 1, .t (sl (rn b))), (.t 5, .t (i64 k))]) (fun k => k ≤ a.length ∧ ∀ i, i < k → a.getD i 0 = b.getD i 0) (fun k => a.length - k) 0 ⟨by omega, by omega⟩ rfl ?_
    rintro k ⟨hk, hlt⟩
    repeat' first
      | ((first
          | ((with_reducible refine vR_cons (by decide) ?_); generalize hk : KtR _ _ _ _ _ _ _ _ _ _ = k)
          | ((first
          | with_reducible refine vOps_cons' ?_) <;> generalize hk : Kt _ _ _ _ _ _ _ _ _ = k)) <;> (simp only [Tryz.f17, lv, E1, E2, E5, ET, T, mvB, bxB, sxB, rxB, fwd, fwds, inv, mOk, EB, simprocAttr, rn_len, List.length_map]; (try simp (disch := omega) only [wrap_in, Int.toNat_natCast, tv_rn]); subst hk))
      | with_reducible first | refine Kt_p ?_ | refine Kt_i (by kernel_rfl) ?_ | refine Kr_f (by kernel_rfl) ?_
      | (with_reducible refine Kr_t ?_; simp only [List.length_append, List.length_cons, List.length_nil, Nat.reduceAdd, Nat.reduceSub, List.drop_succ_cons, List.drop_zero])
      | with_reducible first | refine vR_nil ?_ | refine KtR_i (by kernel_rfl) ?_ | refine KrR_i (by kernel_rfl) ?_ | refine vR_skip (by decide) ?_
      | ((with_reducible refine vB_i ?_ ?_) <;> intro _ <;> (first | (exfalso; omega) | (exact absurd trivial ‹¬True›) | (try dsimp only [])))
      | ((with_reducible refine vOps_nil' ?_); refine Kr_i (by kernel_rfl) ?_; generalize hk : plain _ _ = G; simp only [lv, E3, E2, E5, rawX, deadX, EB, simprocAttr, rn_len, List.length_map] at hk; subst hk)
      | with_reducible refine vSeq_i ?_
      | with_reducible first | refine vRegion_i (by kernel_rfl) ?_ | refine Kv_i ?_
      | ((with_reducible apply vStrK_i); (focus (rfl; done)))
      | ((with_reducible refine imp_i ?_); intro _)
      | with_reducible first | refine Ks_n ?_ | refine Ks_r ?_ | refine Ks_e ?_ | refine Kl_e ?_ | refine Kx_n ?_ | refine Kl_r ?_ | refine vRet_i ?_ | refine vSkip_i ?_ | refine vExit_i ?_ | refine vBlock_i ?_ | refine Ks_p ?_ | refine Kl_p ?_ | refine blk_p ?_ | exact Kb_p | refine vGoto_i ?_ | refine vLabel_i ?_ | refine Ks_g ?_ | refine Kl_g ?_ | refine blk_g ?_ | refine jmp_g ?_ | refine jmp_n ?_ | refine jmp_r ?_ | refine nog_n ?_ | refine nog_r ?_ | refine blk_n ?_ | refine blk_r ?_ | refine blk_e ?_ | refine blk_o (by decide) ?_ | refine cp_t ?_ | refine cp_f ?_
      | ((with_reducible apply vCond_x); (focus (simp only [lv, E1, E2, E5, ET, T, mvB, bxB, sxB, rxB, fwd, fwds, inv, mOk, EB, simprocAttr, rn_len, List.length_map]; with_reducible first | exact Eq.refl (bo true) | exact Eq.refl (bo false))))
      | ((with_reducible refine And.intro ?_ ?_); (focus (try omega)))
    · rename_i heq
      exact Kl_n ⟨k + 1, ⟨by omega, fun i hi => by rcases Nat.lt_or_eq_of_le (Nat.le_of_lt_succ hi) with h1 | h1; exact hlt i h1; exact h1 ▸ heq⟩, by omega, by simp only [Int.natCast_add, Int.natCast_one]⟩
    · refine Kf_r ?_
      simp only [Tryz.f17, E4, E3, E2, E5, rawX, deadX, ET, T, EB, simprocAttr, rn_len, List.length_map, X.p.injEq, X.tup.injEq, PX.one.injEq, PX.agg.injEq, TV.v.injEq, TV.sr.injEq, SV.raw.injEq, SV.sl.injEq, Value.bool.injEq, Value.int.injEq, List.cons.injEq, Prod.mk.injEq, true_and, and_true, and_self]
      rename_i hne
      symm; simp only [decide_eq_false_iff_not]
      intro e; subst e; exact hne rfl
    · refine Kf_r ?_
      simp only [Tryz.f17, E4, E3, E2, E5, rawX, deadX, ET, T, EB, simprocAttr, rn_len, List.length_map, X.p.injEq, X.tup.injEq, PX.one.injEq, PX.agg.injEq, TV.v.injEq, TV.sr.injEq, SV.raw.injEq, SV.sl.injEq, Value.bool.injEq, Value.int.injEq, List.cons.injEq, Prod.mk.injEq, true_and, and_true, and_self]
      symm; simp only [decide_eq_true_eq]
      exact eq_of_getD hc' fun i hi => hlt i (by omega)
  · refine Kf_r ?_
    simp only [Tryz.f17, E4, E3, E2, E5, rawX, deadX, ET, T, EB, simprocAttr, rn_len, List.length_map, X.p.injEq, X.tup.injEq, PX.one.injEq, PX.agg.injEq, TV.v.injEq, TV.sr.injEq, SV.raw.injEq, SV.sl.injEq, Value.bool.injEq, Value.int.injEq, List.cons.injEq, Prod.mk.injEq, true_and, and_true, and_self]
    rename_i hc
    symm; simp only [decide_eq_false_iff_not]
    intro e; subst e; exact hc rfl
end Go.Proofs.YtdpflafjfkooeaaGreatDoorG
namespace Go.Proofs.YtdpflafjfkooeaaGreatDoorG
open Go Go.RowKit Go.Proofs
set_option linter.unusedSimpArgs false
/-- A change. -/
structure Ch where
  at_ : Int
  gone : List Int
  came : List Int
  deriving DecidableEq
def Ch.x (c : Ch) : X := .p (.agg [.v (.raw (.int .i64 c.at_)), .v (.sl 1 (rn c.gone)), .v (.sl 1 (rn c.came))])
abbrev Ch.small (c : Ch) : Prop := c.gone.length ≤ 2000000 ∧ c.came.length ≤ 2000000
def Ch.inv (c : Ch) : Ch := ⟨c.at_, c.came, c.gone⟩
theorem cloneR_ok (l : List Int) (h : l.length ≤ 2000000) : CallOk Tryz.prog 54 [sl (rn l)] (.p (.one (.sr 0))) [(21, 1, rn l)] true :=
  have hc := clone_ok (rn l) (by simpa [rn_len] using h)
  ⟨hc.callable, hc.resok, fun _ => ⟨rfl, fun r hr => by simp at hr; subst hr; exact rn_raw⟩, hc.calls⟩
theorem cut_rn (l : List Int) (a b : Int) : cutSV 1 (rn l) a b = rn ((l.drop a.toNat).take (b - a).toNat) := by simp [cutSV, rn]
theorem take_drop_len (l : List Int) (b : Int) : (l.drop b.toNat).take ((l.length : Int) - b).toNat = l.drop b.toNat := List.take_of_length_le (by simp; omega)
theorem DBA4 : type_of% (And.intro @rn_len (And.intro @List.length_map.{0,0} (And.intro @cut_rn (And.intro @take_drop_len (And.intro @List.length_append.{0} (And.intro @List.length_take.{0} (And.intro @List.length_drop.{0} @Int.sub_zero))))))) := ⟨@rn_len, @List.length_map.{0,0}, @cut_rn, @take_drop_len, @List.length_append.{0}, @List.length_take.{0}, @List.length_drop.{0}, @Int.sub_zero⟩
set_option maxRecDepth 10000 in
theorem inverse_ok (c : Ch) (h : c.small) : CallOk Tryz.prog 36 [c.x] (.p (.agg [.v (.raw (.int .i64 c.at_)), .sr 0, .sr 1])) [(21, 1, rn c.came), (21, 1, rn c.gone)] true := by
  obtain ⟨h1, h2⟩ := h
  refine fn_ok' T_ok (orc_ok _) mixed Tryz.func36 rfl (by kernel_rfl) (lv [[1, 2], [2]]) 12 rfl (by simp) rfl (fun _ => ⟨rfl, fun r hr => by simp at hr; rcases hr with rfl | rfl <;> exact rn_raw⟩) ?_
  simp only [argsG, Nat.zero_add, Nat.reduceAdd, Ch.x]
  repeat' first
    | ((first
        | ((with_reducible refine vR_cons (by decide) ?_); generalize hk : KtR _ _ _ _ _ _ _ _ _ _ = k)
        | ((first
        | with_reducible refine vOps_cons' ?_
        | ((with_reducible apply orc_i); (focus (with_reducible exact cloneR_ok _ h2; done)))
        | ((with_reducible apply orc_i); (focus (with_reducible exact cloneR_ok _ h1; done)))) <;> generalize hk : Kt _ _ _ _ _ _ _ _ _ = k)) <;> (simp only [Tryz.f36, lv, E1, E2, E5, ET, T, mvB, bxB, sxB, rxB, fwd, fwds, inv, mOk, EB, simprocAttr, DBA4, Ch.x, ← rn_app]; (try simp (disch := omega) only [wrap_in, Int.toNat_natCast, tv_rn]); subst hk))
    | with_reducible first | refine Kt_p ?_ | refine Kt_i (by kernel_rfl) ?_ | refine Kr_f (by kernel_rfl) ?_
    | (with_reducible refine Kr_t ?_; simp only [List.length_append, List.length_cons, List.length_nil, Nat.reduceAdd, Nat.reduceSub, List.drop_succ_cons, List.drop_zero])
    | with_reducible first | refine vR_nil ?_ | refine KtR_i (by kernel_rfl) ?_ | refine KrR_i (by kernel_rfl) ?_ | refine vR_skip (by decide) ?_
    | ((with_reducible refine vB_i ?_ ?_) <;> intro _ <;> (first | (exfalso; omega) | (exact absurd trivial ‹¬True›) | (try dsimp only [])))
    | ((with_reducible refine vOps_nil' ?_); refine Kr_i (by kernel_rfl) ?_; generalize hk : plain _ _ = G; simp only [lv, E3, E2, E5, rawX, deadX, EB, simprocAttr, DBA4, Ch.x, ← rn_app] at hk; subst hk)
    | with_reducible refine vSeq_i ?_
    | with_reducible first | refine vRegion_i (by kernel_rfl) ?_ | refine Kv_i ?_
    | ((with_reducible apply vStrK_i); (focus (rfl; done)))
    | ((with_reducible refine imp_i ?_); intro _)
    | with_reducible first | refine Ks_n ?_ | refine Ks_r ?_ | refine Ks_e ?_ | refine Kl_e ?_ | refine Kx_n ?_ | refine Kl_r ?_ | refine vRet_i ?_ | refine vSkip_i ?_ | refine vExit_i ?_ | refine vBlock_i ?_ | refine Ks_p ?_ | refine Kl_p ?_ | refine blk_p ?_ | exact Kb_p | refine vGoto_i ?_ | refine vLabel_i ?_ | refine Ks_g ?_ | refine Kl_g ?_ | refine blk_g ?_ | refine jmp_g ?_ | refine jmp_n ?_ | refine jmp_r ?_ | refine nog_n ?_ | refine nog_r ?_ | refine blk_n ?_ | refine blk_r ?_ | refine blk_e ?_ | refine blk_o (by decide) ?_ | refine cp_t ?_ | refine cp_f ?_
    | ((with_reducible apply vCond_x); (focus (simp only [lv, E1, E2, E5, ET, T, mvB, bxB, sxB, rxB, fwd, fwds, inv, mOk, EB, simprocAttr, DBA4, Ch.x, ← rn_app]; with_reducible first | exact Eq.refl (bo true) | exact Eq.refl (bo false))))
    | ((with_reducible refine And.intro ?_ ?_); (focus (try omega)))
  refine Kf_r ?_
  simp only [Tryz.f36, E4, E3, E2, E5, rawX, deadX, ET, T, EB, simprocAttr, DBA4, Ch.x, ← rn_app]
set_option maxRecDepth 10000 in
theorem turned_ok (c : Ch) (h : c.small) : CallOk Tryz.prog 18 [c.x] (.p (.agg [.v (.raw (.int .i64 c.at_)), .sr 0, .sr 1])) [(21, 1, rn c.came), (21, 1, rn c.gone)] true := by
  obtain ⟨h1, h2⟩ := h
  refine fn_ok' T_ok (orc_ok _) mixed Tryz.func18 rfl (by kernel_rfl) (lv [[1, 2], [2]]) 14 rfl (by simp) rfl (fun _ => ⟨rfl, fun r hr => by simp at hr; rcases hr with rfl | rfl <;> exact rn_raw⟩) ?_
  simp only [argsG, Nat.zero_add, Nat.reduceAdd, Ch.x]
  repeat' first
    | ((first
        | ((with_reducible refine vR_cons (by decide) ?_); generalize hk : KtR _ _ _ _ _ _ _ _ _ _ = k)
        | ((first
        | with_reducible refine vOps_cons' ?_) <;> generalize hk : Kt _ _ _ _ _ _ _ _ _ = k)) <;> (simp only [Tryz.f18, lv, E1, E2, E5, ET, T, mvB, bxB, sxB, rxB, fwd, fwds, inv, mOk, EB, simprocAttr, DBA4, Ch.x, ← rn_app]; (try simp (disch := omega) only [wrap_in, Int.toNat_natCast, tv_rn]); subst hk))
    | with_reducible first | refine Kt_p ?_ | refine Kt_i (by kernel_rfl) ?_ | refine Kr_f (by kernel_rfl) ?_
    | (with_reducible refine Kr_t ?_; simp only [List.length_append, List.length_cons, List.length_nil, Nat.reduceAdd, Nat.reduceSub, List.drop_succ_cons, List.drop_zero])
    | with_reducible first | refine vR_nil ?_ | refine KtR_i (by kernel_rfl) ?_ | refine KrR_i (by kernel_rfl) ?_ | refine vR_skip (by decide) ?_
    | ((with_reducible refine vB_i ?_ ?_) <;> intro _ <;> (first | (exfalso; omega) | (exact absurd trivial ‹¬True›) | (try dsimp only [])))
    | ((with_reducible refine vOps_nil' ?_); refine Kr_i (by kernel_rfl) ?_; generalize hk : plain _ _ = G; simp only [lv, E3, E2, E5, rawX, deadX, EB, simprocAttr, DBA4, Ch.x, ← rn_app] at hk; subst hk)
    | with_reducible refine vSeq_i ?_
    | with_reducible first | refine vRegion_i (by kernel_rfl) ?_ | refine Kv_i ?_
    | ((with_reducible apply vStrK_i); (focus (rfl; done)))
    | ((with_reducible refine imp_i ?_); intro _)
    | with_reducible first | refine Ks_n ?_ | refine Ks_r ?_ | refine Ks_e ?_ | refine Kl_e ?_ | refine Kx_n ?_ | refine Kl_r ?_ | refine vRet_i ?_ | refine vSkip_i ?_ | refine vExit_i ?_ | refine vBlock_i ?_ | refine Ks_p ?_ | refine Kl_p ?_ | refine blk_p ?_ | exact Kb_p | refine vGoto_i ?_ | refine vLabel_i ?_ | refine Ks_g ?_ | refine Kl_g ?_ | refine blk_g ?_ | refine jmp_g ?_ | refine jmp_n ?_ | refine jmp_r ?_ | refine nog_n ?_ | refine nog_r ?_ | refine blk_n ?_ | refine blk_r ?_ | refine blk_e ?_ | refine blk_o (by decide) ?_ | refine cp_t ?_ | refine cp_f ?_
    | ((with_reducible apply vCond_x); (focus (simp only [lv, E1, E2, E5, ET, T, mvB, bxB, sxB, rxB, fwd, fwds, inv, mOk, EB, simprocAttr, DBA4, Ch.x, ← rn_app]; with_reducible first | exact Eq.refl (bo true) | exact Eq.refl (bo false))))
    | ((with_reducible refine And.intro ?_ ?_); (focus (try omega)))
  all_goals first | omega | skip
  refine Kf_r ?_
  simp only [Tryz.f18, E4, E3, E2, E5, rawX, deadX, ET, T, EB, simprocAttr, DBA4, Ch.x, ← rn_app]
def Ch.fits (c : Ch) (t : List Int) : Prop := 0 ≤ c.at_ ∧ c.at_ ≤ t.length ∧ (c.gone.length : Int) ≤ t.length - c.at_ ∧ (t.drop c.at_.toNat).take c.gone.length = c.gone
instance (c : Ch) (t : List Int) : Decidable (c.fits t) := by unfold Ch.fits; infer_instance
def Ch.done (c : Ch) (t : List Int) : List Int := t.take c.at_.toNat ++ c.came ++ t.drop (c.at_ + c.gone.length).toNat
theorem splicedR_ok (l came : List Int) (at_ gone : Int) (h0 : 0 ≤ at_) (h1 : 0 ≤ gone) (h2 : at_ + gone ≤ l.length) (h3 : l.length + came.length ≤ 2000000) :
    CallOk Tryz.prog 53 [sl (rn l), i64 at_, i64 gone, sl (rn came)] (.p (.one (.sr 0))) [(21, 1, rn (l.take at_.toNat ++ came ++ l.drop (at_ + gone).toNat))] true := by
  have hc := spliced_ok (rn l) (rn came) at_ gone h0 h1 (by simpa [rn_len] using h2) (by simpa [rn_len] using h3)
  rw [show (rn l).take at_.toNat ++ rn came ++ (rn l).drop (at_ + gone).toNat = rn (l.take at_.toNat ++ came ++ l.drop (at_ + gone).toNat) by simp [rn]] at hc
  exact ⟨hc.callable, hc.resok, fun _ => ⟨rfl, fun r hr => by simp at hr; subst hr; exact rn_raw⟩, hc.calls⟩
set_option maxRecDepth 10000 in
theorem done_ok (t : List Int) (c : Ch) (h1 : 0 ≤ c.at_) (h2 : c.at_ + c.gone.length ≤ t.length) (h3 : t.length + c.came.length ≤ 2000000) : CallOk Tryz.prog 34 [sl (rn t), c.x] (.p (.one (.sr 0))) [(21, 1, rn (c.done t))] true := by
  refine fn_ok' T_ok (orc_ok _) mixed Tryz.func34 rfl (by kernel_rfl) (lv [[0, 3], [4]]) 14 rfl (by simp) rfl (fun _ => ⟨rfl, fun r hr => by simp at hr; subst hr; exact rn_raw⟩) ?_
  simp only [argsG, Nat.zero_add, Nat.reduceAdd, Ch.x]
  repeat' first
    | ((first
        | ((with_reducible refine vR_cons (by decide) ?_); generalize hk : KtR _ _ _ _ _ _ _ _ _ _ = k)
        | ((first
        | with_reducible refine vOps_cons' ?_
        | ((with_reducible apply orc_i); (focus (with_reducible exact splicedR_ok _ _ _ _ h1 (by omega) h2 h3; done)))) <;> generalize hk : Kt _ _ _ _ _ _ _ _ _ = k)) <;> (simp only [Tryz.f34, lv, E1, E2, E5, ET, T, mvB, bxB, sxB, rxB, fwd, fwds, inv, mOk, EB, simprocAttr, DBA4, Ch.x, ← rn_app]; (try simp (disch := omega) only [wrap_in, Int.toNat_natCast, tv_rn]); subst hk))
    | with_reducible first | refine Kt_p ?_ | refine Kt_i (by kernel_rfl) ?_ | refine Kr_f (by kernel_rfl) ?_
    | (with_reducible refine Kr_t ?_; simp only [List.length_append, List.length_cons, List.length_nil, Nat.reduceAdd, Nat.reduceSub, List.drop_succ_cons, List.drop_zero])
    | with_reducible first | refine vR_nil ?_ | refine KtR_i (by kernel_rfl) ?_ | refine KrR_i (by kernel_rfl) ?_ | refine vR_skip (by decide) ?_
    | ((with_reducible refine vB_i ?_ ?_) <;> intro _ <;> (first | (exfalso; omega) | (exact absurd trivial ‹¬True›) | (try dsimp only [])))
    | ((with_reducible refine vOps_nil' ?_); refine Kr_i (by kernel_rfl) ?_; generalize hk : plain _ _ = G; simp only [lv, E3, E2, E5, rawX, deadX, EB, simprocAttr, DBA4, Ch.x, ← rn_app] at hk; subst hk)
    | with_reducible refine vSeq_i ?_
    | with_reducible first | refine vRegion_i (by kernel_rfl) ?_ | refine Kv_i ?_
    | ((with_reducible apply vStrK_i); (focus (rfl; done)))
    | ((with_reducible refine imp_i ?_); intro _)
    | with_reducible first | refine Ks_n ?_ | refine Ks_r ?_ | refine Ks_e ?_ | refine Kl_e ?_ | refine Kx_n ?_ | refine Kl_r ?_ | refine vRet_i ?_ | refine vSkip_i ?_ | refine vExit_i ?_ | refine vBlock_i ?_ | refine Ks_p ?_ | refine Kl_p ?_ | refine blk_p ?_ | exact Kb_p | refine vGoto_i ?_ | refine vLabel_i ?_ | refine Ks_g ?_ | refine Kl_g ?_ | refine blk_g ?_ | refine jmp_g ?_ | refine jmp_n ?_ | refine jmp_r ?_ | refine nog_n ?_ | refine nog_r ?_ | refine blk_n ?_ | refine blk_r ?_ | refine blk_e ?_ | refine blk_o (by decide) ?_ | refine cp_t ?_ | refine cp_f ?_
    | ((with_reducible apply vCond_x); (focus (simp only [lv, E1, E2, E5, ET, T, mvB, bxB, sxB, rxB, fwd, fwds, inv, mOk, EB, simprocAttr, DBA4, Ch.x, ← rn_app]; with_reducible first | exact Eq.refl (bo true) | exact Eq.refl (bo false))))
    | ((with_reducible refine And.intro ?_ ?_); (focus (try omega)))
  refine Kf_r ?_
  simp only [Tryz.f34, E4, E3, E2, E5, rawX, deadX, ET, T, EB, simprocAttr, DBA4, Ch.x, ← rn_app, Ch.done]
set_option maxRecDepth 10000 in
set_option maxHeartbeats 4000000 in
theorem fits_ok (t : List Int) (c : Ch) (ht : t.length ≤ 2000000) (hc : c.small) : CallOk Tryz.prog 84 [sl (rn t), c.x] (bo (decide (c.fits t))) [] true := by
  obtain ⟨h1, h2⟩ := hc
  refine fn_ok' T_ok (orc_ok _) mixed Tryz.func84 rfl (by kernel_rfl) (lv [[0, 3], [4]]) 41 rfl (by simp) rfl (by simp [X.all, PX.all, TV.rawR, SV.isRaw]) ?_
  simp only [argsG, Nat.zero_add, Nat.reduceAdd, Ch.x]
  repeat' first
    | ((first
        | ((with_reducible refine vR_cons (by decide) ?_); generalize hk : KtR _ _ _ _ _ _ _ _ _ _ = k)
        | ((first
        | with_reducible refine vOps_cons' ?_
        | ((with_reducible apply orc_b); (focus (with_reducible exact equal_ok _ _ (by simp; omega) (by omega); done)); (all_goals (intro hb; (try simp only [decide_eq_true_eq, decide_eq_false_iff_not, Bool.not_eq_true', Bool.not_eq_false', Bool.and_eq_true, Decidable.not_not] at hb))))) <;> generalize hk : Kt _ _ _ _ _ _ _ _ _ = k)) <;> (simp only [Tryz.f84, lv, E1, E2, E5, ET, T, mvB, bxB, sxB, rxB, fwd, fwds, inv, mOk, EB, simprocAttr, DBA4, Ch.x, ← rn_app]; (try simp (disch := omega) only [wrap_in, Int.toNat_natCast, tv_rn]); subst hk))
    | with_reducible first | refine Kt_p ?_ | refine Kt_i (by kernel_rfl) ?_ | refine Kr_f (by kernel_rfl) ?_
    | (with_reducible refine Kr_t ?_; simp only [List.length_append, List.length_cons, List.length_nil, Nat.reduceAdd, Nat.reduceSub, List.drop_succ_cons, List.drop_zero])
    | with_reducible first | refine vR_nil ?_ | refine KtR_i (by kernel_rfl) ?_ | refine KrR_i (by kernel_rfl) ?_ | refine vR_skip (by decide) ?_
    | ((with_reducible refine vB_i ?_ ?_) <;> intro _ <;> (first | (exfalso; omega) | (exact absurd trivial ‹¬True›) | (try dsimp only [])))
    | ((with_reducible refine vOps_nil' ?_); refine Kr_i (by kernel_rfl) ?_; generalize hk : plain _ _ = G; simp only [lv, E3, E2, E5, rawX, deadX, EB, simprocAttr, DBA4, Ch.x, ← rn_app] at hk; subst hk)
    | with_reducible refine vSeq_i ?_
    | with_reducible first | refine vRegion_i (by kernel_rfl) ?_ | refine Kv_i ?_
    | ((with_reducible apply vStrK_i); (focus (rfl; done)))
    | ((with_reducible refine imp_i ?_); intro _)
    | with_reducible first | refine Ks_n ?_ | refine Ks_r ?_ | refine Ks_e ?_ | refine Kl_e ?_ | refine Kx_n ?_ | refine Kl_r ?_ | refine vRet_i ?_ | refine vSkip_i ?_ | refine vExit_i ?_ | refine vBlock_i ?_ | refine Ks_p ?_ | refine Kl_p ?_ | refine blk_p ?_ | exact Kb_p | refine vGoto_i ?_ | refine vLabel_i ?_ | refine Ks_g ?_ | refine Kl_g ?_ | refine blk_g ?_ | refine jmp_g ?_ | refine jmp_n ?_ | refine jmp_r ?_ | refine nog_n ?_ | refine nog_r ?_ | refine blk_n ?_ | refine blk_r ?_ | refine blk_e ?_ | refine blk_o (by decide) ?_ | refine cp_t ?_ | refine cp_f ?_
    | ((with_reducible apply vCond_x); (focus (simp only [lv, E1, E2, E5, ET, T, mvB, bxB, sxB, rxB, fwd, fwds, inv, mOk, EB, simprocAttr, DBA4, Ch.x, ← rn_app]; with_reducible first | exact Eq.refl (bo true) | exact Eq.refl (bo false))))
    | ((with_reducible refine And.intro ?_ ?_); (focus (try omega)))
  all_goals
    refine Kf_r ?_
    simp only [Tryz.f84, E4, E3, E2, E5, rawX, deadX, ET, T, EB, simprocAttr, DBA4, Ch.x, ← rn_app, X.p.injEq, X.tup.injEq, PX.one.injEq, PX.agg.injEq, TV.v.injEq, TV.sr.injEq, SV.raw.injEq, SV.sl.injEq, Value.bool.injEq, Value.int.injEq, List.cons.injEq, Prod.mk.injEq, true_and, and_true, and_self]
    symm
    simp only [decide_eq_true_eq, decide_eq_false_iff_not]
    unfold Ch.fits
  · rename_i h3 h4 h5
    rw [show (c.at_ + (c.gone.length : Int) - c.at_).toNat = c.gone.length by omega] at hb
    exact ⟨h3, h4, h5, hb⟩
  · rename_i h3 h4 h5
    rw [show (c.at_ + (c.gone.length : Int) - c.at_).toNat = c.gone.length by omega] at hb
    exact fun h => hb h.2.2.2
  all_goals omega
set_option maxRecDepth 10000 in
theorem put_ok (t : List Int) (a b : Int) (came : List Int) (h0 : 0 ≤ a) (h1 : a ≤ t.length) (h2 : 0 ≤ b) (h3 : b ≤ t.length) (h4 : t.length + came.length ≤ 2000000) : CallOk Tryz.prog 60 [sl (rn t), i64 a, i64 b, sl (rn came)] (.p (.one (.sr 0))) [(21, 1, rn (t.take a.toNat ++ came ++ t.drop b.toNat))] true := by
  refine fn_ok' T_ok (orc_ok _) mixed Tryz.func60 rfl (by kernel_rfl) (lv [[0, 1, 2, 3], [0, 2, 3, 9], [0, 2, 9], [8]]) 23 rfl (by simp) rfl (fun _ => ⟨rfl, fun r hr => by simp at hr; subst hr; exact rn_raw⟩) ?_
  simp only [argsG, Nat.zero_add, Nat.reduceAdd]
  repeat' first
    | ((first
        | ((with_reducible refine vR_cons (by decide) ?_); generalize hk : KtR _ _ _ _ _ _ _ _ _ _ = k)
        | ((first
        | with_reducible refine vOps_cons' ?_) <;> generalize hk : Kt _ _ _ _ _ _ _ _ _ = k)) <;> (simp only [Tryz.f60, lv, E1, E2, E5, ET, T, mvB, bxB, sxB, rxB, fwd, fwds, inv, mOk, EB, simprocAttr, DBA4, Ch.x, ← rn_app]; (try simp (disch := omega) only [wrap_in, Int.toNat_natCast, tv_rn]); subst hk))
    | with_reducible first | refine Kt_p ?_ | refine Kt_i (by kernel_rfl) ?_ | refine Kr_f (by kernel_rfl) ?_
    | (with_reducible refine Kr_t ?_; simp only [List.length_append, List.length_cons, List.length_nil, Nat.reduceAdd, Nat.reduceSub, List.drop_succ_cons, List.drop_zero])
    | with_reducible first | refine vR_nil ?_ | refine KtR_i (by kernel_rfl) ?_ | refine KrR_i (by kernel_rfl) ?_ | refine vR_skip (by decide) ?_
    | ((with_reducible refine vB_i ?_ ?_) <;> intro _ <;> (first | (exfalso; omega) | (exact absurd trivial ‹¬True›) | (try dsimp only [])))
    | ((with_reducible refine vOps_nil' ?_); refine Kr_i (by kernel_rfl) ?_; generalize hk : plain _ _ = G; simp only [lv, E3, E2, E5, rawX, deadX, EB, simprocAttr, DBA4, Ch.x, ← rn_app] at hk; subst hk)
    | with_reducible refine vSeq_i ?_
    | with_reducible first | refine vRegion_i (by kernel_rfl) ?_ | refine Kv_i ?_
    | ((with_reducible apply vStrK_i); (focus (rfl; done)))
    | ((with_reducible refine imp_i ?_); intro _)
    | with_reducible first | refine Ks_n ?_ | refine Ks_r ?_ | refine Ks_e ?_ | refine Kl_e ?_ | refine Kx_n ?_ | refine Kl_r ?_ | refine vRet_i ?_ | refine vSkip_i ?_ | refine vExit_i ?_ | refine vBlock_i ?_ | refine Ks_p ?_ | refine Kl_p ?_ | refine blk_p ?_ | exact Kb_p | refine vGoto_i ?_ | refine vLabel_i ?_ | refine Ks_g ?_ | refine Kl_g ?_ | refine blk_g ?_ | refine jmp_g ?_ | refine jmp_n ?_ | refine jmp_r ?_ | refine nog_n ?_ | refine nog_r ?_ | refine blk_n ?_ | refine blk_r ?_ | refine blk_e ?_ | refine blk_o (by decide) ?_ | refine cp_t ?_ | refine cp_f ?_
    | ((with_reducible apply vCond_x); (focus (simp only [lv, E1, E2, E5, ET, T, mvB, bxB, sxB, rxB, fwd, fwds, inv, mOk, EB, simprocAttr, DBA4, Ch.x, ← rn_app]; with_reducible first | exact Eq.refl (bo true) | exact Eq.refl (bo false))))
    | ((with_reducible refine And.intro ?_ ?_); (focus (try omega)))
  all_goals first | omega | skip
  refine Kf_r ?_
  simp only [Tryz.f60, E4, E3, E2, E5, rawX, deadX, ET, T, EB, simprocAttr, DBA4, Ch.x, ← rn_app]
end Go.Proofs.YtdpflafjfkooeaaGreatDoorG
namespace Go.Proofs.YtdpflafjfkooeaaGreatDoorG
open Go Go.RowKit Go.Proofs
set_option linter.unusedSimpArgs false
/-- A change may be done to a text. -/
def Ch.good (c : Ch) (t : List Int) : Prop := scal c.gone ∧ scal c.came ∧ c.fits t
instance (c : Ch) (t : List Int) : Decidable (c.good t) := by unfold Ch.good; infer_instance
theorem Ch.done_len {c : Ch} {t : List Int} (h : c.fits t) : (c.done t).length = t.length - c.gone.length + c.came.length := by
  obtain ⟨h1, h2, h3, h4⟩ := h
  simp only [Ch.done, List.length_append, List.length_take, List.length_drop]; omega
theorem stands_iff {t g : List Int} {a : Int} (h0 : 0 ≤ a) (h1 : a + g.length ≤ t.length) : (t.drop a.toNat).take g.length = g ↔ ∀ k, k < g.length → t.getD (a + k).toNat 0 = g.getD k 0 := by
  constructor
  · intro h k hk
    have := congrArg (fun l => l[k]?) h
    simp only [List.getElem?_take, if_pos hk, List.getElem?_drop] at this
    simp only [List.getD, show (a + (k : Int)).toNat = a.toNat + k by omega, this]
  · intro h
    refine List.ext_getElem (by simp; omega) fun k h2 h3 => ?_
    have := h k h3
    have e : t.getD (a + (k : Int)).toNat 0 = t[a.toNat + k]'(by omega) := by
      rw [show (a + (k : Int)).toNat = a.toNat + k by omega]; simp [List.getD, List.getElem?_eq_getElem (show a.toNat + k < t.length by omega)]
    rw [e] at this
    simp only [List.getElem_take, List.getElem_drop, this]
    simp [List.getD, List.getElem?_eq_getElem h3]
theorem DBA5 : type_of% (And.intro @rn_len (And.intro @List.length_map.{0,0} (And.intro @cut_rn (And.intro @take_drop_len (And.intro @List.length_append.{0} (And.intro @List.length_take.{0} (And.intro @List.length_drop.{0} @Int.sub_zero))))))) := ⟨@rn_len, @List.length_map.{0,0}, @cut_rn, @take_drop_len, @List.length_append.{0}, @List.length_take.{0}, @List.length_drop.{0}, @Int.sub_zero⟩
set_option maxRecDepth 10000 in
set_option maxHeartbeats 4000000 in
theorem refDone_ok (t : List Int) (c : Ch) (ht : t.length ≤ 1000000) (hc1 : c.gone.length ≤ 1000000) (hc2 : c.came.length ≤ 1000000) (r1 : R32s c.gone) (r2 : R32s c.came) : CallOk Tryz.prog 39 [sl (rn t), c.x]
    (.tup [.one (.sr 0), .one (.v (.raw (.bool (decide (c.good t ∧ (c.done t).length ≤ 4096)))))]) [(21, 1, rn (if c.good t then c.done t else []))] true := by
  refine fn_ok' T_ok (orc_ok _) mixed Tryz.func39 rfl (by kernel_rfl) (lv [[0, 3], [0, 3, 40], [4, 5], [0, 3, 6], [0, 3, 6, 45], [0, 3, 6], [0, 3, 6, 60], [4, 5], [7], [4, 5]]) 77 rfl (by simp) rfl (fun _ => ⟨rfl, fun r hr => by simp at hr; subst hr; exact rn_raw⟩) ?_
  simp only [argsG, Nat.zero_add, Nat.reduceAdd, Ch.x]
  repeat' first
    | ((first
        | ((with_reducible refine vR_cons (by decide) ?_); generalize hk : KtR _ _ _ _ _ _ _ _ _ _ = k)
        | ((first
        | with_reducible refine vOps_cons' ?_
        | ((with_reducible apply orc_b); (focus (with_reducible exact scal1_ok _ r1 (by omega); done)); (all_goals (intro hb; (try simp only [decide_eq_true_eq, decide_eq_false_iff_not, Bool.not_eq_true', Bool.not_eq_false', Bool.and_eq_true, Decidable.not_not] at hb))))
        | ((with_reducible apply orc_b); (focus (with_reducible exact scal1_ok _ r2 (by omega); done)); (all_goals (intro hb; (try simp only [decide_eq_true_eq, decide_eq_false_iff_not, Bool.not_eq_true', Bool.not_eq_false', Bool.and_eq_true, Decidable.not_not] at hb))))) <;> generalize hk : Kt _ _ _ _ _ _ _ _ _ = k)) <;> (simp only [Tryz.f39, lv, E1, E2, E5, ET, T, mvB, bxB, sxB, rxB, fwd, fwds, inv, mOk, EB, simprocAttr, DBA5, Ch.x, ← rn_app]; (try simp (disch := omega) only [wrap_in, Int.toNat_natCast, tv_rn]); subst hk))
    | with_reducible first | refine Kt_p ?_ | refine Kt_i (by kernel_rfl) ?_ | refine Kr_f (by kernel_rfl) ?_
    | (with_reducible refine Kr_t ?_; simp only [List.length_append, List.length_cons, List.length_nil, Nat.reduceAdd, Nat.reduceSub, List.drop_succ_cons, List.drop_zero])
    | with_reducible first | refine vR_nil ?_ | refine KtR_i (by kernel_rfl) ?_ | refine KrR_i (by kernel_rfl) ?_ | refine vR_skip (by decide) ?_
    | ((with_reducible refine vB_i ?_ ?_) <;> intro _ <;> (first | (exfalso; omega) | (exact absurd trivial ‹¬True›) | (try dsimp only [])))
    | ((with_reducible refine vOps_nil' ?_); refine Kr_i (by kernel_rfl) ?_; generalize hk : plain _ _ = G; simp only [lv, E3, E2, E5, rawX, deadX, EB, simprocAttr, DBA5, Ch.x, ← rn_app] at hk; subst hk)
    | with_reducible refine vSeq_i ?_
    | with_reducible first | refine vRegion_i (by kernel_rfl) ?_ | refine Kv_i ?_
    | ((with_reducible apply vStrK_i); (focus (rfl; done)))
    | ((with_reducible refine imp_i ?_); intro _)
    | with_reducible first | refine Ks_n ?_ | refine Ks_r ?_ | refine Ks_e ?_ | refine Kl_e ?_ | refine Kx_n ?_ | refine Kl_r ?_ | refine vRet_i ?_ | refine vSkip_i ?_ | refine vExit_i ?_ | refine vBlock_i ?_ | refine Ks_p ?_ | refine Kl_p ?_ | refine blk_p ?_ | exact Kb_p | refine vGoto_i ?_ | refine vLabel_i ?_ | refine Ks_g ?_ | refine Kl_g ?_ | refine blk_g ?_ | refine jmp_g ?_ | refine jmp_n ?_ | refine jmp_r ?_ | refine nog_n ?_ | refine nog_r ?_ | refine blk_n ?_ | refine blk_r ?_ | refine blk_e ?_ | refine blk_o (by decide) ?_ | refine cp_t ?_ | refine cp_f ?_
    | ((with_reducible apply vCond_x); (focus (simp only [lv, E1, E2, E5, ET, T, mvB, bxB, sxB, rxB, fwd, fwds, inv, mOk, EB, simprocAttr, DBA5, Ch.x, ← rn_app]; with_reducible first | exact Eq.refl (bo true) | exact Eq.refl (bo false))))
    | ((with_reducible refine And.intro ?_ ?_); (focus (try omega)))
  all_goals try
    ((have hg : ¬ c.good t := by
        rintro ⟨g1, g2, g3, g4, g5, g6⟩
        first | contradiction | omega)
     rw [if_neg hg, decide_eq_false (fun h => hg h.1)]
     refine Kf_r ?_
     simp only [Tryz.f39, E4, E3, E2, E5, rawX, deadX, ET, T, EB, simprocAttr, DBA5, Ch.x, ← rn_app, rn, List.map_nil]
     done)
  rename_i hs1 h3 h4 h5
  have e5 : c.at_ + c.gone.length ≤ t.length := by omega
  refine vLoop_s (fun k : Nat => [(.t 0, .t (sl (rn t))), (.t 3, .t (.p (.one (.pr 0 0)))), (.t 6, .t (i64 k)), (.box 0, .box 47 [.v (.raw (.int .i64 c.at_)), .v (.sl 1 (rn c.gone)), .v (.sl 1 (rn c.came))])]) (fun k => k ≤ c.gone.length ∧ ∀ i : Nat, i < k → t.getD (c.at_ + i).toNat 0 = c.gone.getD i 0) (fun k => c.gone.length - k) 0 ⟨by omega, by omega⟩ rfl ?_
  rintro k ⟨hk, hlt⟩
  repeat' first
    | ((first
        | ((with_reducible refine vR_cons (by decide) ?_); generalize hk : KtR _ _ _ _ _ _ _ _ _ _ = k)
        | ((first
        | with_reducible refine vOps_cons' ?_
        | ((with_reducible apply orc_i); (focus (with_reducible exact put_ok _ _ _ _ (by omega) (by omega) (by omega) (by omega) (by omega); done)))) <;> generalize hk : Kt _ _ _ _ _ _ _ _ _ = k)) <;> (simp only [Tryz.f39, lv, E1, E2, E5, ET, T, mvB, bxB, sxB, rxB, fwd, fwds, inv, mOk, EB, simprocAttr, DBA5, Ch.x, ← rn_app]; (try simp (disch := omega) only [wrap_in, Int.toNat_natCast, tv_rn]); subst hk))
    | with_reducible first | refine Kt_p ?_ | refine Kt_i (by kernel_rfl) ?_ | refine Kr_f (by kernel_rfl) ?_
    | (with_reducible refine Kr_t ?_; simp only [List.length_append, List.length_cons, List.length_nil, Nat.reduceAdd, Nat.reduceSub, List.drop_succ_cons, List.drop_zero])
    | with_reducible first | refine vR_nil ?_ | refine KtR_i (by kernel_rfl) ?_ | refine KrR_i (by kernel_rfl) ?_ | refine vR_skip (by decide) ?_
    | ((with_reducible refine vB_i ?_ ?_) <;> intro _ <;> (first | (exfalso; omega) | (exact absurd trivial ‹¬True›) | (try dsimp only [])))
    | ((with_reducible refine vOps_nil' ?_); refine Kr_i (by kernel_rfl) ?_; generalize hk : plain _ _ = G; simp only [lv, E3, E2, E5, rawX, deadX, EB, simprocAttr, DBA5, Ch.x, ← rn_app] at hk; subst hk)
    | with_reducible refine vSeq_i ?_
    | with_reducible first | refine vRegion_i (by kernel_rfl) ?_ | refine Kv_i ?_
    | ((with_reducible apply vStrK_i); (focus (rfl; done)))
    | ((with_reducible refine imp_i ?_); intro _)
    | with_reducible first | refine Ks_n ?_ | refine Ks_r ?_ | refine Ks_e ?_ | refine Kl_e ?_ | refine Kx_n ?_ | refine Kl_r ?_ | refine vRet_i ?_ | refine vSkip_i ?_ | refine vExit_i ?_ | refine vBlock_i ?_ | refine Ks_p ?_ | refine Kl_p ?_ | refine blk_p ?_ | exact Kb_p | refine vGoto_i ?_ | refine vLabel_i ?_ | refine Ks_g ?_ | refine Kl_g ?_ | refine blk_g ?_ | refine jmp_g ?_ | refine jmp_n ?_ | refine jmp_r ?_ | refine nog_n ?_ | refine nog_r ?_ | refine blk_n ?_ | refine blk_r ?_ | refine blk_e ?_ | refine blk_o (by decide) ?_ | refine cp_t ?_ | refine cp_f ?_
    | ((with_reducible apply vCond_x); (focus (simp only [lv, E1, E2, E5, ET, T, mvB, bxB, sxB, rxB, fwd, fwds, inv, mOk, EB, simprocAttr, DBA5, Ch.x, ← rn_app]; with_reducible first | exact Eq.refl (bo true) | exact Eq.refl (bo false))))
    | ((with_reducible refine And.intro ?_ ?_); (focus (try omega)))
  · rename_i ha he
    exact Kl_n ⟨k + 1, ⟨by omega, fun i hi => by rcases Nat.lt_or_eq_of_le (Nat.le_of_lt_succ hi) with h1 | h1; exact hlt i h1; exact h1 ▸ he⟩, by omega, by simp only [Int.natCast_add, Int.natCast_one]⟩
  · rename_i ha he
    have hg : ¬ c.good t := fun h => he (((stands_iff (by omega) e5).1 h.2.2.2.2.2) k (by omega))
    rw [if_neg hg, decide_eq_false (fun h => hg h.1)]
    refine Kf_r ?_
    simp only [Tryz.f39, E4, E3, E2, E5, rawX, deadX, ET, T, EB, simprocAttr, DBA5, Ch.x, ← rn_app, rn, List.map_nil]
  all_goals
    rename_i ha hl
    have hg : c.good t := ⟨hs1, hb, by omega, by omega, by omega, (stands_iff (by omega) e5).2 fun i hi => hlt i (by omega)⟩
    have hd := Ch.done_len hg.2.2
    rw [if_pos hg]
  · rw [decide_eq_true (⟨hg, by rw [hd]; omega⟩ : c.good t ∧ (c.done t).length ≤ 4096)]
    refine Kf_r ?_
    simp only [Tryz.f39, E4, E3, E2, E5, rawX, deadX, ET, T, EB, simprocAttr, DBA5, Ch.x, ← rn_app, Ch.done]
  · rw [decide_eq_false (fun h => by have := h.2; rw [hd] at this; omega : ¬ (c.good t ∧ (c.done t).length ≤ 4096))]
    refine Kf_r ?_
    simp only [Tryz.f39, E4, E3, E2, E5, rawX, deadX, ET, T, EB, simprocAttr, DBA5, Ch.x, ← rn_app, Ch.done]
end Go.Proofs.YtdpflafjfkooeaaGreatDoorG
namespace Go.Proofs.YtdpflafjfkooeaaGreatDoorG
open Go Go.RowKit Go.Proofs
set_option linter.unusedSimpArgs false
/-- An operation. -/
structure Opn where
  kind : Int
  at_ : Int
  to_ : Int
  text : List Int
def Opn.x (o : Opn) : X := .p (.agg [.v (.raw (.int .i64 o.kind)), .v (.raw (.int .i64 o.at_)), .v (.raw (.int .i64 o.to_)), .v (.sl 1 (rn o.text))])
def noCh : Ch := ⟨0, [], []⟩
/-- What an insertion does, or why it does not. -/
def insF (t : List Int) (o : Opn) : Ch × Int := if o.text.length = 0 then (noCh, 2) else if ¬ scal o.text then (noCh, 11) else if o.at_ < 0 ∨ o.at_ > t.length then (noCh, 4) else if (o.text.length : Int) > 4096 - t.length then (noCh, 3) else (⟨o.at_, [], o.text⟩, 0)
def remF (t : List Int) (o : Opn) : Ch × Int := if o.at_ < 0 ∨ o.to_ > t.length ∨ o.at_ > o.to_ then (noCh, 4) else if o.at_ = o.to_ then (noCh, 2) else (⟨o.at_, (t.drop o.at_.toNat).take (o.to_ - o.at_).toNat, []⟩, 0)
def Ch.rx (c : Ch) (e : Int) : X := .tup [.agg [.v (.raw (.int .i64 c.at_)), .sr 0, .sr 1], .one (.v (.raw (.int .i64 e)))]
def Ch.rr (c : Ch) : Rows := [(21, 1, rn c.gone), (21, 1, rn c.came)]
theorem Ch.rr_raw {c : Ch} : ∀ r ∈ c.rr, ∀ x ∈ r.2.2, x.isRaw = true := by
  intro r hr; simp [Ch.rr] at hr; rcases hr with rfl | rfl <;> exact rn_raw
theorem rn_nil : rn [] = [] := rfl
theorem DBA6 : type_of% (And.intro @rn_len (And.intro @List.length_map.{0,0} (And.intro @cut_rn (And.intro @take_drop_len (And.intro @List.length_append.{0} (And.intro @List.length_take.{0} (And.intro @List.length_drop.{0} @Int.sub_zero))))))) := ⟨@rn_len, @List.length_map.{0,0}, @cut_rn, @take_drop_len, @List.length_append.{0}, @List.length_take.{0}, @List.length_drop.{0}, @Int.sub_zero⟩
set_option maxRecDepth 10000 in
set_option maxHeartbeats 4000000 in
theorem insert_ok (t : List Int) (o : Opn) (ht : t.length ≤ 1000000) (h1 : o.text.length ≤ 1000000) (r1 : R32s o.text) : CallOk Tryz.prog 51 [sl (rn t), o.x] ((insF t o).1.rx (insF t o).2) (insF t o).1.rr true := by
  refine fn_ok' T_ok (orc_ok _) mixed Tryz.func51 rfl (by kernel_rfl) (lv [[0, 3, 4], [0, 3, 4, 6], [4, 5], [0, 3, 4, 12], [4, 5], [0, 3, 4, 18], [4, 5], [3, 4, 30], [4, 5], [4, 5]]) 45 rfl (by simp) rfl (fun _ => ⟨rfl, Ch.rr_raw⟩) ?_
  rcases hI : insF t o with ⟨c, e⟩
  simp only [argsG, Nat.zero_add, Nat.reduceAdd, Opn.x]
  repeat' first
    | ((first
        | ((with_reducible refine vR_cons (by decide) ?_); generalize hk : KtR _ _ _ _ _ _ _ _ _ _ = k)
        | ((first
        | with_reducible refine vOps_cons' ?_
        | ((with_reducible apply orc_b); (focus (with_reducible exact scal_ok _ r1 (by omega); done)); (all_goals (intro hb; (try simp only [decide_eq_true_eq, decide_eq_false_iff_not, Bool.not_eq_true', Bool.not_eq_false', Bool.and_eq_true, Decidable.not_not] at hb))))
        | ((with_reducible apply orc_i); (focus (with_reducible exact cloneR_ok _ (by omega); done)))) <;> generalize hk : Kt _ _ _ _ _ _ _ _ _ = k)) <;> (simp only [Tryz.f51, lv, E1, E2, E5, ET, T, mvB, bxB, sxB, rxB, fwd, fwds, inv, mOk, EB, simprocAttr, DBA6, Ch.x, Opn.x, ← rn_app]; (try simp (disch := omega) only [wrap_in, Int.toNat_natCast, tv_rn]); subst hk))
    | with_reducible first | refine Kt_p ?_ | refine Kt_i (by kernel_rfl) ?_ | refine Kr_f (by kernel_rfl) ?_
    | (with_reducible refine Kr_t ?_; simp only [List.length_append, List.length_cons, List.length_nil, Nat.reduceAdd, Nat.reduceSub, List.drop_succ_cons, List.drop_zero])
    | with_reducible first | refine vR_nil ?_ | refine KtR_i (by kernel_rfl) ?_ | refine KrR_i (by kernel_rfl) ?_ | refine vR_skip (by decide) ?_
    | ((with_reducible refine vB_i ?_ ?_) <;> intro _ <;> (first | (exfalso; omega) | (exact absurd trivial ‹¬True›) | (try dsimp only [])))
    | ((with_reducible refine vOps_nil' ?_); refine Kr_i (by kernel_rfl) ?_; generalize hk : plain _ _ = G; simp only [lv, E3, E2, E5, rawX, deadX, EB, simprocAttr, DBA6, Ch.x, Opn.x, ← rn_app] at hk; subst hk)
    | with_reducible refine vSeq_i ?_
    | with_reducible first | refine vRegion_i (by kernel_rfl) ?_ | refine Kv_i ?_
    | ((with_reducible apply vStrK_i); (focus (rfl; done)))
    | ((with_reducible refine imp_i ?_); intro _)
    | with_reducible first | refine Ks_n ?_ | refine Ks_r ?_ | refine Ks_e ?_ | refine Kl_e ?_ | refine Kx_n ?_ | refine Kl_r ?_ | refine vRet_i ?_ | refine vSkip_i ?_ | refine vExit_i ?_ | refine vBlock_i ?_ | refine Ks_p ?_ | refine Kl_p ?_ | refine blk_p ?_ | exact Kb_p | refine vGoto_i ?_ | refine vLabel_i ?_ | refine Ks_g ?_ | refine Kl_g ?_ | refine blk_g ?_ | refine jmp_g ?_ | refine jmp_n ?_ | refine jmp_r ?_ | refine nog_n ?_ | refine nog_r ?_ | refine blk_n ?_ | refine blk_r ?_ | refine blk_e ?_ | refine blk_o (by decide) ?_ | refine cp_t ?_ | refine cp_f ?_
    | ((with_reducible apply vCond_x); (focus (simp only [lv, E1, E2, E5, ET, T, mvB, bxB, sxB, rxB, fwd, fwds, inv, mOk, EB, simprocAttr, DBA6, Ch.x, Opn.x, ← rn_app]; with_reducible first | exact Eq.refl (bo true) | exact Eq.refl (bo false))))
    | ((with_reducible refine And.intro ?_ ?_); (focus (try omega)))
  all_goals
    unfold insF at hI
    (repeat' split at hI)
    all_goals first
      | (exfalso; first | contradiction | omega)
      | (simp only [Prod.mk.injEq] at hI
         obtain ⟨rfl, rfl⟩ := hI
         refine Kf_r ?_
         simp only [Tryz.f51, E4, E3, E2, E5, rawX, deadX, ET, T, EB, simprocAttr, DBA6, Ch.x, Opn.x, ← rn_app, Ch.rx, Ch.rr, noCh, rn_nil]
         done)
set_option maxRecDepth 10000 in
set_option maxHeartbeats 4000000 in
theorem remove_ok (t : List Int) (o : Opn) (ht : t.length ≤ 1000000) : CallOk Tryz.prog 52 [sl (rn t), o.x] ((remF t o).1.rx (remF t o).2) (remF t o).1.rr true := by
  refine fn_ok' T_ok (orc_ok _) mixed Tryz.func52 rfl (by kernel_rfl) (lv [[0, 3, 4], [0, 3, 4, 6], [4, 5], [0, 3, 4, 25], [4, 5], [4, 5]]) 42 rfl (by simp) rfl (fun _ => ⟨rfl, Ch.rr_raw⟩) ?_
  rcases hI : remF t o with ⟨c, e⟩
  simp only [argsG, Nat.zero_add, Nat.reduceAdd, Opn.x]
  repeat' first
    | ((first
        | ((with_reducible refine vR_cons (by decide) ?_); generalize hk : KtR _ _ _ _ _ _ _ _ _ _ = k)
        | ((first
        | with_reducible refine vOps_cons' ?_
        | ((with_reducible apply orc_i); (focus (with_reducible exact cloneR_ok _ (by simp only [List.length_take, List.length_drop]; omega); done)))) <;> generalize hk : Kt _ _ _ _ _ _ _ _ _ = k)) <;> (simp only [Tryz.f52, lv, E1, E2, E5, ET, T, mvB, bxB, sxB, rxB, fwd, fwds, inv, mOk, EB, simprocAttr, DBA6, Ch.x, Opn.x, ← rn_app]; (try simp (disch := omega) only [wrap_in, Int.toNat_natCast, tv_rn]); subst hk))
    | with_reducible first | refine Kt_p ?_ | refine Kt_i (by kernel_rfl) ?_ | refine Kr_f (by kernel_rfl) ?_
    | (with_reducible refine Kr_t ?_; simp only [List.length_append, List.length_cons, List.length_nil, Nat.reduceAdd, Nat.reduceSub, List.drop_succ_cons, List.drop_zero])
    | with_reducible first | refine vR_nil ?_ | refine KtR_i (by kernel_rfl) ?_ | refine KrR_i (by kernel_rfl) ?_ | refine vR_skip (by decide) ?_
    | ((with_reducible refine vB_i ?_ ?_) <;> intro _ <;> (first | (exfalso; omega) | (exact absurd trivial ‹¬True›) | (try dsimp only [])))
    | ((with_reducible refine vOps_nil' ?_); refine Kr_i (by kernel_rfl) ?_; generalize hk : plain _ _ = G; simp only [lv, E3, E2, E5, rawX, deadX, EB, simprocAttr, DBA6, Ch.x, Opn.x, ← rn_app] at hk; subst hk)
    | with_reducible refine vSeq_i ?_
    | with_reducible first | refine vRegion_i (by kernel_rfl) ?_ | refine Kv_i ?_
    | ((with_reducible apply vStrK_i); (focus (rfl; done)))
    | ((with_reducible refine imp_i ?_); intro _)
    | with_reducible first | refine Ks_n ?_ | refine Ks_r ?_ | refine Ks_e ?_ | refine Kl_e ?_ | refine Kx_n ?_ | refine Kl_r ?_ | refine vRet_i ?_ | refine vSkip_i ?_ | refine vExit_i ?_ | refine vBlock_i ?_ | refine Ks_p ?_ | refine Kl_p ?_ | refine blk_p ?_ | exact Kb_p | refine vGoto_i ?_ | refine vLabel_i ?_ | refine Ks_g ?_ | refine Kl_g ?_ | refine blk_g ?_ | refine jmp_g ?_ | refine jmp_n ?_ | refine jmp_r ?_ | refine nog_n ?_ | refine nog_r ?_ | refine blk_n ?_ | refine blk_r ?_ | refine blk_e ?_ | refine blk_o (by decide) ?_ | refine cp_t ?_ | refine cp_f ?_
    | ((with_reducible apply vCond_x); (focus (simp only [lv, E1, E2, E5, ET, T, mvB, bxB, sxB, rxB, fwd, fwds, inv, mOk, EB, simprocAttr, DBA6, Ch.x, Opn.x, ← rn_app]; with_reducible first | exact Eq.refl (bo true) | exact Eq.refl (bo false))))
    | ((with_reducible refine And.intro ?_ ?_); (focus (try omega)))
  all_goals
    unfold remF at hI
    (repeat' split at hI)
    all_goals first
      | (exfalso; first | contradiction | omega)
      | (simp only [Prod.mk.injEq] at hI
         obtain ⟨rfl, rfl⟩ := hI
         refine Kf_r ?_
         simp only [Tryz.f52, E4, E3, E2, E5, rawX, deadX, ET, T, EB, simprocAttr, DBA6, Ch.x, Opn.x, ← rn_app, Ch.rx, Ch.rr, noCh, rn_nil]
         done)
/-- Changes, one behind the other. -/
def chs (l : List Ch) : List SV := l.flatMap fun c => [.raw (.int .i64 c.at_), .sl 1 (rn c.gone), .sl 1 (rn c.came)]
theorem chs_len (l : List Ch) : (chs l).length = 3 * l.length := by
  induction l with
  | nil => rfl
  | cons c l ih => simp only [chs, List.flatMap_cons, List.length_append] at *; simp [ih]; omega
theorem chs_cnt (l : List Ch) : cnt 3 (chs l) = l.length := by simp [cnt, chs_len]
theorem chs_cons (c : Ch) (l : List Ch) : chs (c :: l) = .raw (.int .i64 c.at_) :: .sl 1 (rn c.gone) :: .sl 1 (rn c.came) :: chs l := rfl
theorem chs_app (a b : List Ch) : chs (a ++ b) = chs a ++ chs b := by simp [chs]
theorem tv_ch0 {l : List Ch} {k : Nat} (h : k < l.length) : (List.map TV.v (chs l)).getD (k * 3) .dead = .v (.raw (.int .i64 (l.getD k noCh).at_)) := by
  induction l generalizing k with
  | nil => simp at h
  | cons c l ih => cases k with
    | zero => rfl
    | succ k => simp only [List.length_cons] at h; have := ih (k := k) (by omega); simpa [chs_cons, Nat.succ_mul, List.getD] using this
theorem tv_ch1 {l : List Ch} {k : Nat} (h : k < l.length) : (List.map TV.v (chs l)).getD (k * 3 + 1) .dead = .v (.sl 1 (rn (l.getD k noCh).gone)) := by
  induction l generalizing k with
  | nil => simp at h
  | cons c l ih => cases k with
    | zero => rfl
    | succ k => simp only [List.length_cons] at h; have := ih (k := k) (by omega); simpa [chs_cons, Nat.succ_mul, List.getD, show k * 3 + 3 + 1 = k * 3 + 1 + 3 by omega] using this
theorem tv_ch2 {l : List Ch} {k : Nat} (h : k < l.length) : (List.map TV.v (chs l)).getD (k * 3 + 2) .dead = .v (.sl 1 (rn (l.getD k noCh).came)) := by
  induction l generalizing k with
  | nil => simp at h
  | cons c l ih => cases k with
    | zero => rfl
    | succ k => simp only [List.length_cons] at h; have := ih (k := k) (by omega); simpa [chs_cons, Nat.succ_mul, List.getD, show k * 3 + 3 + 2 = k * 3 + 2 + 3 by omega] using this
theorem mem_getD {l : List Ch} {k : Nat} (h : k < l.length) : l.getD k noCh ∈ l := by
  simp [List.getD, List.getElem?_eq_getElem h]
theorem chs_take1 {l : List Ch} {k : Nat} (h : k < l.length) : chs (l.take (k + 1)) = chs (l.take k) ++ [.raw (.int .i64 (l.getD k noCh).at_), .sl 1 (rn (l.getD k noCh).gone), .sl 1 (rn (l.getD k noCh).came)] := by
  rw [List.take_succ_eq_append_getElem h, chs_app]
  simp [chs, List.getD, List.getElem?_eq_getElem h]
def Ch.all (p : Ch → Prop) (l : List Ch) : Prop := ∀ c ∈ l, p c
end Go.Proofs.YtdpflafjfkooeaaGreatDoorG
namespace Go.Proofs.YtdpflafjfkooeaaGreatDoorG
open Go Go.RowKit Go.Proofs
set_option linter.unusedSimpArgs false
theorem DBA7 : type_of% (And.intro @rn_len (And.intro @chs_len (And.intro @chs_cnt (And.intro @List.length_map.{0,0} (And.intro @cut_rn (And.intro @take_drop_len (And.intro @List.length_append.{0} (And.intro @List.length_take.{0} (And.intro @List.length_drop.{0} @Int.sub_zero))))))))) := ⟨@rn_len, @chs_len, @chs_cnt, @List.length_map.{0,0}, @cut_rn, @take_drop_len, @List.length_append.{0}, @List.length_take.{0}, @List.length_drop.{0}, @Int.sub_zero⟩
set_option maxRecDepth 10000 in
set_option maxHeartbeats 400000 in
theorem copied_ok (l : List Ch) (hl : l.length ≤ 1000000) (hc : ∀ c ∈ l, c.small) : CallOk Tryz.prog 35 [sln 3 (chs l)] (.p (.one (.sr 0))) [(47, 3, chs l)] false := by
  refine fn_ok' T_ok (orc_ok _) mixed Tryz.func35 rfl (by kernel_rfl) (lv [[0], [0, 3], [3, 6, 7, 8], [3, 6, 7, 8, 9], [3, 5, 6, 7, 8], [3, 6, 7, 8], [3, 6, 7, 8], [2]]) 20 rfl (by simp) rfl (by simp) ?_
  simp only [argsG, Nat.zero_add, Nat.reduceAdd]
  repeat' first
    | ((first
        | ((with_reducible refine vR_cons (by decide) ?_); generalize hk : KtR _ _ _ _ _ _ _ _ _ _ = k)
        | ((first
        | with_reducible refine vOps_cons' ?_) <;> generalize hk : Kt _ _ _ _ _ _ _ _ _ = k)) <;> (simp only [Tryz.f35, lv, E1, E2, E5, ET, T, mvB, bxB, sxB, rxB, fwd, fwds, inv, mOk, EB, simprocAttr, DBA7, Ch.x, Ch.inv, Opn.x, ← rn_app]; (try simp (disch := omega) only [wrap_in, Int.toNat_natCast, tv_rn, tv_ch0, tv_ch1, tv_ch2]); subst hk))
    | with_reducible first | refine Kt_p ?_ | refine Kt_i (by kernel_rfl) ?_ | refine Kr_f (by kernel_rfl) ?_
    | (with_reducible refine Kr_t ?_; simp only [List.length_append, List.length_cons, List.length_nil, Nat.reduceAdd, Nat.reduceSub, List.drop_succ_cons, List.drop_zero])
    | with_reducible first | refine vR_nil ?_ | refine KtR_i (by kernel_rfl) ?_ | refine KrR_i (by kernel_rfl) ?_ | refine vR_skip (by decide) ?_
    | ((with_reducible refine vB_i ?_ ?_) <;> intro _ <;> (first | (exfalso; omega) | (exact absurd trivial ‹¬True›) | (try dsimp only [])))
    | ((with_reducible refine vOps_nil' ?_); refine Kr_i (by kernel_rfl) ?_; generalize hk : plain _ _ = G; simp only [lv, E3, E2, E5, rawX, deadX, EB, simprocAttr, DBA7, Ch.x, Ch.inv, Opn.x, ← rn_app] at hk; subst hk)
    | with_reducible refine vSeq_i ?_
    | with_reducible first | refine vRegion_i (by kernel_rfl) ?_ | refine Kv_i ?_
    | ((with_reducible apply vStrK_i); (focus (rfl; done)))
    | ((with_reducible refine imp_i ?_); intro _)
    | with_reducible first | refine Ks_n ?_ | refine Ks_r ?_ | refine Ks_e ?_ | refine Kl_e ?_ | refine Kx_n ?_ | refine Kl_r ?_ | refine vRet_i ?_ | refine vSkip_i ?_ | refine vExit_i ?_ | refine vBlock_i ?_ | refine Ks_p ?_ | refine Kl_p ?_ | refine blk_p ?_ | exact Kb_p | refine vGoto_i ?_ | refine vLabel_i ?_ | refine Ks_g ?_ | refine Kl_g ?_ | refine blk_g ?_ | refine jmp_g ?_ | refine jmp_n ?_ | refine jmp_r ?_ | refine nog_n ?_ | refine nog_r ?_ | refine blk_n ?_ | refine blk_r ?_ | refine blk_e ?_ | refine blk_o (by decide) ?_ | refine cp_t ?_ | refine cp_f ?_
    | ((with_reducible apply vCond_x); (focus (simp only [lv, E1, E2, E5, ET, T, mvB, bxB, sxB, rxB, fwd, fwds, inv, mOk, EB, simprocAttr, DBA7, Ch.x, Ch.inv, Opn.x, ← rn_app]; with_reducible first | exact Eq.refl (bo true) | exact Eq.refl (bo false))))
    | ((with_reducible refine And.intro ?_ ?_); (focus (try omega)))
  refine vLoop_s (fun k : Nat => [(.t 3, .t (.p (.one (.sr 0)))), (.t 6, .t (sln 3 (chs l))), (.t 7, .t (i64 l.length)), (.t 8, .t (i64 k)), (.row 0, .row 47 3 (chs (l.take k)))]) (fun k => k ≤ l.length) (fun k => l.length - k) 0 (by omega) (by simp only [List.take_zero, chs, List.flatMap_nil]; rfl) ?_
  intro k hk
  repeat' first
    | ((first
        | ((with_reducible refine vR_cons (by decide) ?_); generalize hk : KtR _ _ _ _ _ _ _ _ _ _ = k)
        | ((first
        | with_reducible refine vOps_cons' ?_
        | ((with_reducible apply orc_i); (focus (exact inverse_ok (l.getD k noCh) (hc _ (mem_getD (by omega))); done)))
        | ((with_reducible apply orc_i); (focus (exact inverse_ok (Ch.inv (l.getD k noCh)) (And.symm (hc _ (mem_getD (by omega)))); done)))) <;> generalize hk : Kt _ _ _ _ _ _ _ _ _ = k)) <;> (simp only [Tryz.f35, lv, E1, E2, E5, ET, T, mvB, bxB, sxB, rxB, fwd, fwds, inv, mOk, EB, simprocAttr, DBA7, Ch.x, Ch.inv, Opn.x, ← rn_app]; (try simp (disch := omega) only [wrap_in, Int.toNat_natCast, tv_rn, tv_ch0, tv_ch1, tv_ch2]); subst hk))
    | with_reducible first | refine Kt_p ?_ | refine Kt_i (by kernel_rfl) ?_ | refine Kr_f (by kernel_rfl) ?_
    | (with_reducible refine Kr_t ?_; simp only [List.length_append, List.length_cons, List.length_nil, Nat.reduceAdd, Nat.reduceSub, List.drop_succ_cons, List.drop_zero])
    | with_reducible first | refine vR_nil ?_ | refine KtR_i (by kernel_rfl) ?_ | refine KrR_i (by kernel_rfl) ?_ | refine vR_skip (by decide) ?_
    | ((with_reducible refine vB_i ?_ ?_) <;> intro _ <;> (first | (exfalso; omega) | (exact absurd trivial ‹¬True›) | (try dsimp only [])))
    | ((with_reducible refine vOps_nil' ?_); refine Kr_i (by kernel_rfl) ?_; generalize hk : plain _ _ = G; simp only [lv, E3, E2, E5, rawX, deadX, EB, simprocAttr, DBA7, Ch.x, Ch.inv, Opn.x, ← rn_app] at hk; subst hk)
    | with_reducible refine vSeq_i ?_
    | with_reducible first | refine vRegion_i (by kernel_rfl) ?_ | refine Kv_i ?_
    | ((with_reducible apply vStrK_i); (focus (rfl; done)))
    | ((with_reducible refine imp_i ?_); intro _)
    | with_reducible first | refine Ks_n ?_ | refine Ks_r ?_ | refine Ks_e ?_ | refine Kl_e ?_ | refine Kx_n ?_ | refine Kl_r ?_ | refine vRet_i ?_ | refine vSkip_i ?_ | refine vExit_i ?_ | refine vBlock_i ?_ | refine Ks_p ?_ | refine Kl_p ?_ | refine blk_p ?_ | exact Kb_p | refine vGoto_i ?_ | refine vLabel_i ?_ | refine Ks_g ?_ | refine Kl_g ?_ | refine blk_g ?_ | refine jmp_g ?_ | refine jmp_n ?_ | refine jmp_r ?_ | refine nog_n ?_ | refine nog_r ?_ | refine blk_n ?_ | refine blk_r ?_ | refine blk_e ?_ | refine blk_o (by decide) ?_ | refine cp_t ?_ | refine cp_f ?_
    | ((with_reducible apply vCond_x); (focus (simp only [lv, E1, E2, E5, ET, T, mvB, bxB, sxB, rxB, fwd, fwds, inv, mOk, EB, simprocAttr, DBA7, Ch.x, Ch.inv, Opn.x, ← rn_app]; with_reducible first | exact Eq.refl (bo true) | exact Eq.refl (bo false))))
    | ((with_reducible refine And.intro ?_ ?_); (focus (try omega)))
  · simp only [cnt, List.length_cons, List.length_nil]; omega
  · refine Kl_n ⟨k + 1, by omega, by omega, ?_⟩
    rw [chs_take1 (by omega)]
    simp only [Int.natCast_add, Int.natCast_one]
  · refine Kf_r ?_
    rw [List.take_of_length_le (by omega)]
    simp only [Tryz.f35, E4, E3, E2, E5, rawX, deadX, ET, T, EB, simprocAttr, DBA7, Ch.x, Ch.inv, Opn.x, ← rn_app]
end Go.Proofs.YtdpflafjfkooeaaGreatDoorG
namespace Go.Proofs.YtdpflafjfkooeaaGreatDoorG
open Go Go.RowKit Go.Proofs
set_option linter.unusedSimpArgs false
/-- A state. -/
structure St where
  text : List Int
  undo : List Ch
  redo : List Ch
def St.x (s : St) : X := .p (.agg [.v (.sl 1 (rn s.text)), .v (.sl 3 (chs s.undo)), .v (.sl 3 (chs s.redo))])
/-- A change of a size, of runes. -/
structure Ch.ok (c : Ch) : Prop where
  gone : c.gone.length ≤ 100000
  came : c.came.length ≤ 100000
  rgone : R32s c.gone
  rcame : R32s c.came
theorem Ch.ok.inv {c : Ch} (h : c.ok) : c.inv.ok := ⟨h.2, h.1, h.4, h.3⟩
theorem Ch.ok.small {c : Ch} (h : c.ok) : c.small := ⟨Nat.le_trans h.1 (by omega), Nat.le_trans h.2 (by omega)⟩
structure St.ok (s : St) : Prop where
  len : s.text.length ≤ 100000
  run : R32s s.text
  undo : ∀ c ∈ s.undo, c.ok
  redo : ∀ c ∈ s.redo, c.ok
  ulen : s.undo.length ≤ 100000
  rlen : s.redo.length ≤ 100000
/-- The last n changes of a list, the newest first, may be done one behind the other. -/
def walkN (l : List Ch) : Nat → List Int → Bool
  | 0, _ => true
  | n + 1, t => decide ((l.getD n noCh).good t ∧ ((l.getD n noCh).done t).length ≤ 4096) && walkN l n ((l.getD n noCh).done t)
def rightF (s : St) : Int :=
  if s.text.length > 4096 ∨ s.undo.length + s.redo.length > 16 then 3 else if ¬ scal s.text then 11
  else if (walkN (s.undo.map Ch.inv) s.undo.length s.text && walkN s.redo s.redo.length s.text) = false then 50 else 0
theorem getD_inv (l : List Ch) (n : Nat) : (l.map Ch.inv).getD n noCh = (l.getD n noCh).inv := by
  simp only [List.getD, List.getElem?_map]
  cases l[n]? <;> rfl
theorem R32s.take {l : List Int} (h : R32s l) (n : Nat) : R32s (l.take n) := fun x hx => h x (List.mem_of_mem_take hx)
theorem R32s.drop {l : List Int} (h : R32s l) (n : Nat) : R32s (l.drop n) := fun x hx => h x (List.mem_of_mem_drop hx)
theorem R32s.app {a b : List Int} (h : R32s a) (h' : R32s b) : R32s (a ++ b) := fun x hx => by
  rcases List.mem_append.1 hx with h1 | h1
  · exact h x h1
  · exact h' x h1
theorem R32s.done {c : Ch} {t : List Int} (h : R32s t) (h' : R32s c.came) : R32s (c.done t) := ((h.take _).app h').app (h.drop _)
theorem walk_step (l : List Ch) (m : Nat) (t : List Int) : walkN l (m + 1) t = (decide ((l.getD m noCh).good t ∧ ((l.getD m noCh).done t).length ≤ 4096) && walkN l m (if (l.getD m noCh).good t then (l.getD m noCh).done t else [])) := by
  simp only [walkN]
  by_cases h : (l.getD m noCh).good t
  · rw [if_pos h]
  · rw [decide_eq_false (fun h' => h h'.1)]; simp
theorem refDone_ok' (t : List Int) (c : Ch) (ht : t.length ≤ 100000) (hc : c.ok) : CallOk Tryz.prog 39 [sl (rn t), c.x]
    (.tup [.one (.sr 0), .one (.v (.raw (.bool (decide (c.good t ∧ (c.done t).length ≤ 4096)))))]) [(21, 1, rn (if c.good t then c.done t else []))] true :=
  refDone_ok t c (by omega) (Nat.le_trans hc.gone (by omega)) (Nat.le_trans hc.came (by omega)) hc.rgone hc.rcame
theorem walk_len {c : Ch} {t : List Int} (h : decide (c.good t ∧ (c.done t).length ≤ 4096) = true) : (if c.good t then c.done t else []).length ≤ 100000 := by
  have h := of_decide_eq_true h
  rw [if_pos h.1]; omega
theorem drop_getD {l : List Ch} {k : Nat} (h : k < l.length) : l.drop k = l.getD k noCh :: l.drop (k + 1) := by
  rw [List.drop_eq_getElem_cons h]; simp [List.getD, List.getElem?_eq_getElem h]
end Go.Proofs.YtdpflafjfkooeaaGreatDoorG
