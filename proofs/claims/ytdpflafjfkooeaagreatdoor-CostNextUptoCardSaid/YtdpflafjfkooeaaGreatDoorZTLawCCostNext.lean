/- YtdpflafjfkooeaaGreatDoorZTLawCCostNext: a part of the proof, joined of its texts. -/
import Derived.Test.YtdpflafjfkooeaaGreatDoorZ26
namespace Go.Proofs.YtdpflafjfkooeaaGreatDoorG
open Go Go.RowKit Go.Proofs
set_option linter.unusedSimpArgs false
set_option linter.unusedVariables false
theorem nextF_ok {a b c : Int} {k : Book} {o : Opn} (hk : k.s.ok) (ho : o.ok) : (nextF a b c k o).1.s.ok := by
  unfold nextF
  split
  · exact okN
  split
  · exact okN
  rename_i h
  have h0 := app_ok hk ho (Decidable.not_not.1 h)
  (repeat' split) <;> first | exact okN | exact h0
theorem savedF_ok {a b c : Int} {k : Book} (hk : k.s.ok) : (savedF a b c k).1.s.ok := by
  unfold savedF
  (repeat' split) <;> first | exact okN | exact hk
theorem stSm {s : St} (h : s.ok) : s.small := ⟨Nat.le_trans h.len (by omega), fun c hc => (h.undo c hc).small, fun c hc => (h.redo c hc).small, Nat.le_trans h.ulen (by omega), Nat.le_trans h.rlen (by omega)⟩
theorem rn_upd {l : List Int} {j : Nat} {x : Int} (h : j < l.length) : (rn l).take j ++ [.raw (.int .i32 x)] ++ (rn l).drop (j + 1) = rn (l.set j x) := by
  have : rn (l.set j x) = (rn l).set j (.raw (.int .i32 x)) := by simp [rn, List.map_set]
  rw [this, List.set_eq_take_append_cons_drop, if_pos (by rw [rn_len]; exact h)]; simp
theorem DBY13 : type_of% (And.intro @List.set_cons_zero.{0} (And.intro @List.set_cons_succ.{0} (And.intro @List.length_map.{0,0} (And.intro @rn_len (And.intro @chs_len (And.intro @List.length_cons.{0} (And.intro @List.length_nil.{0} @List.length_set.{0}))))))) := ⟨@List.set_cons_zero.{0}, @List.set_cons_succ.{0}, @List.length_map.{0,0}, @rn_len, @chs_len, @List.length_cons.{0}, @List.length_nil.{0}, @List.length_set.{0}⟩
set_option maxRecDepth 10000 in
set_option maxHeartbeats 16000000 in
theorem next_law (a b c : Int) (k : Book) (o : Opn) (hs : k.s.upto 1048576) (hu : k.u ≤ 9223372036854775807) (ho : o.upto 1048576) : CallOk Tryz.prog 3 [geo a b c, k.x, o.x] (bo true) [] true := by
  have w := works24_ok
  have qb := bulk_ok k.s (Nat.le_trans hs.len (by omega)) (Nat.le_trans hs.ulen (by omega)) (Nat.le_trans hs.rlen (by omega)) (fun c hc => by
    rcases List.mem_append.1 hc with h | h
    · exact ⟨Nat.le_trans (hs.undo c h).gone (by omega), Nat.le_trans (hs.undo c h).came (by omega)⟩
    · exact ⟨Nat.le_trans (hs.redo c h).gone (by omega), Nat.le_trans (hs.redo c h).came (by omega)⟩)
  have hol := ho.len
  refine fn_ok' T_ok (orc_ok _) mixed Tryz.func3 rfl (by kernel_rfl) (lv [[3, 4, 5], [3, 4, 5, 27], [6], [3, 4, 5, 7], [3, 4, 5, 7, 8, 9], [3, 4, 7, 8, 9, 10, 11], [3, 4, 7, 8, 9, 10, 11, 12, 13], [4, 7, 8, 9, 10, 11, 12, 13, 14, 15], [4, 7, 8, 12, 82], [6], [4, 7, 8, 12, 86, 87], [4, 7, 8, 12, 86, 87, 88], [4, 7, 8, 12, 16, 86, 87], [4, 7, 8, 12, 86, 87], [4, 7, 8, 12, 86, 87], [4, 7, 12, 99, 100], [4, 7, 12, 99, 100, 101], [4, 7, 12, 17, 99, 100], [4, 7, 12, 99, 100], [4, 7, 12, 99, 100], [6]]) 117 rfl (by simp) rfl (by simp [X.all, PX.all, TV.rawR, SV.isRaw]) ?_
  by_cases hbig : o.text.length > 20000 ∨ bulkF k.s > 20000
  · simp only [argsG, Nat.zero_add, Nat.reduceAdd, Book.x, Opn.x]
    repeat' first
      | ((first
          | ((with_reducible refine vR_cons (by decide) ?_); generalize hk : KtR _ _ _ _ _ _ _ _ _ _ = k)
          | ((first
          | with_reducible refine vOps_cons' ?_
          | ((with_reducible apply orc_i); (focus (exact qb; done)))
          | ((with_reducible apply orc_i); (focus (exact w; done)))) <;> generalize hk : Kt _ _ _ _ _ _ _ _ _ = k)) <;> (simp only [Tryz.f3, lv, E1, E2, E5, ET, T, mvB, bxB, sxB, rxB, fwd, fwds, inv, mOk, EB, simprocAttr, DBY13, Opn.x, St.x, St.rx, St.ox, Book.x, bkO, bkR, bkE]; (try simp (disch := omega) only [wrap_in, Int.toNat_natCast, tv_rn]); subst hk))
      | with_reducible first | refine Kt_p ?_ | refine Kt_i (by kernel_rfl) ?_ | refine Kr_f (by kernel_rfl) ?_
      | (with_reducible refine Kr_t ?_; simp only [List.length_append, List.length_cons, List.length_nil, Nat.reduceAdd, Nat.reduceSub, List.drop_succ_cons, List.drop_zero])
      | with_reducible first | refine vR_nil ?_ | refine KtR_i (by kernel_rfl) ?_ | refine KrR_i (by kernel_rfl) ?_ | refine vR_skip (by decide) ?_
      | ((with_reducible refine vB_i ?_ ?_) <;> intro _ <;> (first | (exfalso; omega) | (exact absurd trivial ‹¬True›) | (try dsimp only [])))
      | ((with_reducible refine vOps_nil' ?_); refine Kr_i (by kernel_rfl) ?_; generalize hk : plain _ _ = G; simp only [lv, E3, E2, E5, rawX, deadX, EB, simprocAttr, DBY13, Opn.x, St.x, St.rx, St.ox, Book.x, bkO, bkR, bkE] at hk; subst hk)
      | with_reducible refine vSeq_i ?_
      | with_reducible first | refine vRegion_i (by kernel_rfl) ?_ | refine Kv_i ?_
      | ((with_reducible apply vStrK_i); (focus (rfl; done)))
      | ((with_reducible refine imp_i ?_); intro _)
      | with_reducible first | refine Ks_n ?_ | refine Ks_r ?_ | refine Ks_e ?_ | refine Kl_e ?_ | refine Kx_n ?_ | refine Kl_r ?_ | refine vRet_i ?_ | refine vSkip_i ?_ | refine vExit_i ?_ | refine vBlock_i ?_ | refine Ks_p ?_ | refine Kl_p ?_ | refine blk_p ?_ | exact Kb_p | refine vGoto_i ?_ | refine vLabel_i ?_ | refine Ks_g ?_ | refine Kl_g ?_ | refine blk_g ?_ | refine jmp_g ?_ | refine jmp_n ?_ | refine jmp_r ?_ | refine nog_n ?_ | refine nog_r ?_ | refine blk_n ?_ | refine blk_r ?_ | refine blk_e ?_ | refine blk_o (by decide) ?_ | refine cp_t ?_ | refine cp_f ?_
      | ((with_reducible apply vCond_x); (focus (simp only [lv, E1, E2, E5, ET, T, mvB, bxB, sxB, rxB, fwd, fwds, inv, mOk, EB, simprocAttr, DBY13, Opn.x, St.x, St.rx, St.ox, Book.x, bkO, bkR, bkE]; with_reducible first | exact Eq.refl (bo true) | exact Eq.refl (bo false))))
      | ((with_reducible refine And.intro ?_ ?_); (focus (try omega)))
    all_goals try (exfalso; omega)
    all_goals refine Kf_r ?_
    all_goals simp only [Tryz.f3, E4, E3, E2, E5, rawX, deadX, ET, T, EB, simprocAttr, DBY13, Opn.x, St.x, St.rx, St.ox, Book.x, bkO, bkR, bkE]
  have hok : k.s.ok := upto_ok hs (by omega)
  have hoo : o.ok := ⟨by omega, ho.run⟩
  have p0 := copy_ok k.s (stSm hok)
  have p1 := nextO_ok a b c k o hok hoo hu
  have p2 := rnext_ok a b c k o hok hoo hu
  have p3 := savedO_ok a b c k hok
  have p4 := rsaved_ok a b c k hok
  have n1 := nextF_ok (a := a) (b := b) (c := c) hok hoo
  have n2 := savedF_ok (a := a) (b := b) (c := c) hok
  rcases hN : nextF a b c k o with ⟨x, e⟩
  rcases hS : savedF a b c k with ⟨s, f⟩
  rw [hN] at p1 p2 n1
  rw [hS] at p3 p4 n2
  have p5 := sameBk_ok x (stSm n1)
  have p6 := sameBk_ok s (stSm n2)
  have p7 := sameSt_ok k.s k.s (stSm hok) (stSm hok)
  rw [decide_eq_true rfl] at p7
  have l1 := n1.len
  have l2 := n2.len
  simp only [] at l1 l2
  simp only [argsG, Nat.zero_add, Nat.reduceAdd, Book.x, Opn.x, St.x, bkO, bkR, bkE] at *
  repeat' first
    | ((first
        | ((with_reducible refine vR_cons (by decide) ?_); generalize hk : KtR _ _ _ _ _ _ _ _ _ _ = k)
        | ((first
        | with_reducible refine vOps_cons' ?_
        | ((with_reducible apply orc_i); (focus (exact qb; done)))
        | ((with_reducible apply orc_i); (focus (exact p0; done)))
        | ((with_reducible apply orc_i); (focus (exact p1; done)))
        | ((with_reducible apply orc_i); (focus (exact p2; done)))
        | ((with_reducible apply orc_i); (focus (exact p3; done)))
        | ((with_reducible apply orc_i); (focus (exact p4; done)))
        | ((with_reducible apply orc_i); (focus (exact p5; done)))
        | ((with_reducible apply orc_i); (focus (exact p6; done)))) <;> generalize hk : Kt _ _ _ _ _ _ _ _ _ = k)) <;> (simp only [Tryz.f3, lv, E1, E2, E5, ET, T, mvB, bxB, sxB, rxB, fwd, fwds, inv, mOk, EB, simprocAttr, DBY13, Opn.x, St.x, St.rx, St.ox, Book.x, bkO, bkR, bkE]; (try simp (disch := omega) only [wrap_in, Int.toNat_natCast, tv_rn]); subst hk))
    | with_reducible first | refine Kt_p ?_ | refine Kt_i (by kernel_rfl) ?_ | refine Kr_f (by kernel_rfl) ?_
    | (with_reducible refine Kr_t ?_; simp only [List.length_append, List.length_cons, List.length_nil, Nat.reduceAdd, Nat.reduceSub, List.drop_succ_cons, List.drop_zero])
    | with_reducible first | refine vR_nil ?_ | refine KtR_i (by kernel_rfl) ?_ | refine KrR_i (by kernel_rfl) ?_ | refine vR_skip (by decide) ?_
    | ((with_reducible refine vB_i ?_ ?_) <;> intro _ <;> (first | (exfalso; omega) | (exact absurd trivial ‹¬True›) | (try dsimp only [])))
    | ((with_reducible refine vOps_nil' ?_); refine Kr_i (by kernel_rfl) ?_; generalize hk : plain _ _ = G; simp only [lv, E3, E2, E5, rawX, deadX, EB, simprocAttr, DBY13, Opn.x, St.x, St.rx, St.ox, Book.x, bkO, bkR, bkE] at hk; subst hk)
    | with_reducible refine vSeq_i ?_
    | with_reducible first | refine vRegion_i (by kernel_rfl) ?_ | refine Kv_i ?_
    | ((with_reducible apply vStrK_i); (focus (rfl; done)))
    | ((with_reducible refine imp_i ?_); intro _)
    | with_reducible first | refine Ks_n ?_ | refine Ks_r ?_ | refine Ks_e ?_ | refine Kl_e ?_ | refine Kx_n ?_ | refine Kl_r ?_ | refine vRet_i ?_ | refine vSkip_i ?_ | refine vExit_i ?_ | refine vBlock_i ?_ | refine Ks_p ?_ | refine Kl_p ?_ | refine blk_p ?_ | exact Kb_p | refine vGoto_i ?_ | refine vLabel_i ?_ | refine Ks_g ?_ | refine Kl_g ?_ | refine blk_g ?_ | refine jmp_g ?_ | refine jmp_n ?_ | refine jmp_r ?_ | refine nog_n ?_ | refine nog_r ?_ | refine blk_n ?_ | refine blk_r ?_ | refine blk_e ?_ | refine blk_o (by decide) ?_ | refine cp_t ?_ | refine cp_f ?_
    | ((with_reducible apply vCond_x); (focus (simp only [lv, E1, E2, E5, ET, T, mvB, bxB, sxB, rxB, fwd, fwds, inv, mOk, EB, simprocAttr, DBY13, Opn.x, St.x, St.rx, St.ox, Book.x, bkO, bkR, bkE]; with_reducible first | exact Eq.refl (bo true) | exact Eq.refl (bo false))))
    | ((with_reducible refine And.intro ?_ ?_); (focus (try omega)))
  all_goals try (exfalso; omega)
  refine vLoop_s (fun z : Nat × List Int => [(.t 4, .t (.p (.one (.pr 0 0)))), (.t 7, .t (.p (.one (.pr 1 0)))), (.t 8, .t (.p (.one (.pr 2 0)))), (.t 12, .t (.p (.one (.pr 3 0)))), (.t 86, .t (i64 x.s.text.length)), (.t 87, .t (i64 z.1)), (.box 0, .box 29 [.v (.sl 1 (rn k.s.text)), .v (.sl 3 (chs k.s.undo)), .v (.sl 3 (chs k.s.redo)), .v (.raw (.int .i64 k.n)), .v (.raw (.int .i64 k.u))]), (.box 1, .box 35 [.v (.sl 1 (rn k.s.text)), .v (.sl 3 (chs k.s.undo)), .v (.sl 3 (chs k.s.redo)), .v (.raw (.int .i64 k.n)), .v (.raw (.int .i64 k.u))]), (.box 2, .box 35 [.sr 4, .v (.sl 3 (chs x.s.undo)), .v (.sl 3 (chs x.s.redo)), .v (.raw (.int .i64 x.n)), .v (.raw (.int .i64 x.u))]), (.box 3, .box 35 [.sr 5, .v (.sl 3 (chs s.s.undo)), .v (.sl 3 (chs s.s.redo)), .v (.raw (.int .i64 s.n)), .v (.raw (.int .i64 s.u))]), (.row 4, .row 21 1 (rn z.2)), (.row 5, .row 21 1 (rn s.s.text))])
    (fun z => z.1 ≤ x.s.text.length ∧ z.2.length = x.s.text.length) (fun z => x.s.text.length - z.1) (0, x.s.text) ⟨Nat.zero_le _, rfl⟩ rfl ?_
  rintro ⟨j, zs⟩ ⟨hj, hz⟩
  dsimp only at hj hz ⊢
  repeat' first
    | ((first
        | ((with_reducible refine vR_cons (by decide) ?_); generalize hk : KtR _ _ _ _ _ _ _ _ _ _ = k)
        | ((first
        | with_reducible refine vOps_cons' ?_) <;> generalize hk : Kt _ _ _ _ _ _ _ _ _ = k)) <;> (simp only [Tryz.f3, lv, E1, E2, E5, ET, T, mvB, bxB, sxB, rxB, fwd, fwds, inv, mOk, EB, simprocAttr, DBY13, Opn.x, St.x, St.rx, St.ox, Book.x, bkO, bkR, bkE]; (try simp (disch := omega) only [wrap_in, Int.toNat_natCast, tv_rn]); subst hk))
    | with_reducible first | refine Kt_p ?_ | refine Kt_i (by kernel_rfl) ?_ | refine Kr_f (by kernel_rfl) ?_
    | (with_reducible refine Kr_t ?_; simp only [List.length_append, List.length_cons, List.length_nil, Nat.reduceAdd, Nat.reduceSub, List.drop_succ_cons, List.drop_zero])
    | with_reducible first | refine vR_nil ?_ | refine KtR_i (by kernel_rfl) ?_ | refine KrR_i (by kernel_rfl) ?_ | refine vR_skip (by decide) ?_
    | ((with_reducible refine vB_i ?_ ?_) <;> intro _ <;> (first | (exfalso; omega) | (exact absurd trivial ‹¬True›) | (try dsimp only [])))
    | ((with_reducible refine vOps_nil' ?_); refine Kr_i (by kernel_rfl) ?_; generalize hk : plain _ _ = G; simp only [lv, E3, E2, E5, rawX, deadX, EB, simprocAttr, DBY13, Opn.x, St.x, St.rx, St.ox, Book.x, bkO, bkR, bkE] at hk; subst hk)
    | with_reducible refine vSeq_i ?_
    | with_reducible first | refine vRegion_i (by kernel_rfl) ?_ | refine Kv_i ?_
    | ((with_reducible apply vStrK_i); (focus (rfl; done)))
    | ((with_reducible refine imp_i ?_); intro _)
    | with_reducible first | refine Ks_n ?_ | refine Ks_r ?_ | refine Ks_e ?_ | refine Kl_e ?_ | refine Kx_n ?_ | refine Kl_r ?_ | refine vRet_i ?_ | refine vSkip_i ?_ | refine vExit_i ?_ | refine vBlock_i ?_ | refine Ks_p ?_ | refine Kl_p ?_ | refine blk_p ?_ | exact Kb_p | refine vGoto_i ?_ | refine vLabel_i ?_ | refine Ks_g ?_ | refine Kl_g ?_ | refine blk_g ?_ | refine jmp_g ?_ | refine jmp_n ?_ | refine jmp_r ?_ | refine nog_n ?_ | refine nog_r ?_ | refine blk_n ?_ | refine blk_r ?_ | refine blk_e ?_ | refine blk_o (by decide) ?_ | refine cp_t ?_ | refine cp_f ?_
    | ((with_reducible apply vCond_x); (focus (simp only [lv, E1, E2, E5, ET, T, mvB, bxB, sxB, rxB, fwd, fwds, inv, mOk, EB, simprocAttr, DBY13, Opn.x, St.x, St.rx, St.ox, Book.x, bkO, bkR, bkE]; with_reducible first | exact Eq.refl (bo true) | exact Eq.refl (bo false))))
    | ((with_reducible refine And.intro ?_ ?_); (focus (try omega)))
  all_goals try omega
  · refine Kl_n ⟨(j + 1, zs.set j (-1)), ⟨by dsimp only; omega, by simp only [List.length_set]; exact hz⟩, by dsimp only; omega, ?_⟩
    dsimp only
    rw [← rn_upd (by omega)]
    simp only [Int.natCast_add, Int.natCast_one]
  refine vLoop_s (fun z : Nat × List Int => [(.t 4, .t (.p (.one (.pr 0 0)))), (.t 7, .t (.p (.one (.pr 1 0)))), (.t 12, .t (.p (.one (.pr 2 0)))), (.t 99, .t (i64 s.s.text.length)), (.t 100, .t (i64 z.1)), (.box 0, .box 29 [.v (.sl 1 (rn k.s.text)), .v (.sl 3 (chs k.s.undo)), .v (.sl 3 (chs k.s.redo)), .v (.raw (.int .i64 k.n)), .v (.raw (.int .i64 k.u))]), (.box 1, .box 35 [.v (.sl 1 (rn k.s.text)), .v (.sl 3 (chs k.s.undo)), .v (.sl 3 (chs k.s.redo)), .v (.raw (.int .i64 k.n)), .v (.raw (.int .i64 k.u))]), (.box 2, .box 35 [.sr 3, .v (.sl 3 (chs s.s.undo)), .v (.sl 3 (chs s.s.redo)), .v (.raw (.int .i64 s.n)), .v (.raw (.int .i64 s.u))]), (.row 3, .row 21 1 (rn z.2))])
    (fun z => z.1 ≤ s.s.text.length ∧ z.2.length = s.s.text.length) (fun z => s.s.text.length - z.1) (0, s.s.text) ⟨Nat.zero_le _, rfl⟩ rfl ?_
  rintro ⟨j2, zs2⟩ ⟨hj2, hz2⟩
  dsimp only at hj2 hz2 ⊢
  repeat' first
    | ((first
        | ((with_reducible refine vR_cons (by decide) ?_); generalize hk : KtR _ _ _ _ _ _ _ _ _ _ = k)
        | ((first
        | with_reducible refine vOps_cons' ?_
        | ((with_reducible apply orc_i); (focus (exact p7; done)))
        | ((with_reducible apply orc_i); (focus (exact w; done)))) <;> generalize hk : Kt _ _ _ _ _ _ _ _ _ = k)) <;> (simp only [Tryz.f3, lv, E1, E2, E5, ET, T, mvB, bxB, sxB, rxB, fwd, fwds, inv, mOk, EB, simprocAttr, DBY13, Opn.x, St.x, St.rx, St.ox, Book.x, bkO, bkR, bkE]; (try simp (disch := omega) only [wrap_in, Int.toNat_natCast, tv_rn]); subst hk))
    | with_reducible first | refine Kt_p ?_ | refine Kt_i (by kernel_rfl) ?_ | refine Kr_f (by kernel_rfl) ?_
    | (with_reducible refine Kr_t ?_; simp only [List.length_append, List.length_cons, List.length_nil, Nat.reduceAdd, Nat.reduceSub, List.drop_succ_cons, List.drop_zero])
    | with_reducible first | refine vR_nil ?_ | refine KtR_i (by kernel_rfl) ?_ | refine KrR_i (by kernel_rfl) ?_ | refine vR_skip (by decide) ?_
    | ((with_reducible refine vB_i ?_ ?_) <;> intro _ <;> (first | (exfalso; omega) | (exact absurd trivial ‹¬True›) | (try dsimp only [])))
    | ((with_reducible refine vOps_nil' ?_); refine Kr_i (by kernel_rfl) ?_; generalize hk : plain _ _ = G; simp only [lv, E3, E2, E5, rawX, deadX, EB, simprocAttr, DBY13, Opn.x, St.x, St.rx, St.ox, Book.x, bkO, bkR, bkE] at hk; subst hk)
    | with_reducible refine vSeq_i ?_
    | with_reducible first | refine vRegion_i (by kernel_rfl) ?_ | refine Kv_i ?_
    | ((with_reducible apply vStrK_i); (focus (rfl; done)))
    | ((with_reducible refine imp_i ?_); intro _)
    | with_reducible first | refine Ks_n ?_ | refine Ks_r ?_ | refine Ks_e ?_ | refine Kl_e ?_ | refine Kx_n ?_ | refine Kl_r ?_ | refine vRet_i ?_ | refine vSkip_i ?_ | refine vExit_i ?_ | refine vBlock_i ?_ | refine Ks_p ?_ | refine Kl_p ?_ | refine blk_p ?_ | exact Kb_p | refine vGoto_i ?_ | refine vLabel_i ?_ | refine Ks_g ?_ | refine Kl_g ?_ | refine blk_g ?_ | refine jmp_g ?_ | refine jmp_n ?_ | refine jmp_r ?_ | refine nog_n ?_ | refine nog_r ?_ | refine blk_n ?_ | refine blk_r ?_ | refine blk_e ?_ | refine blk_o (by decide) ?_ | refine cp_t ?_ | refine cp_f ?_
    | ((with_reducible apply vCond_x); (focus (simp only [lv, E1, E2, E5, ET, T, mvB, bxB, sxB, rxB, fwd, fwds, inv, mOk, EB, simprocAttr, DBY13, Opn.x, St.x, St.rx, St.ox, Book.x, bkO, bkR, bkE]; with_reducible first | exact Eq.refl (bo true) | exact Eq.refl (bo false))))
    | ((with_reducible refine And.intro ?_ ?_); (focus (try omega)))
  all_goals try omega
  · refine Kl_n ⟨(j2 + 1, zs2.set j2 (-2)), ⟨by dsimp only; omega, by simp only [List.length_set]; exact hz2⟩, by dsimp only; omega, ?_⟩
    dsimp only
    rw [← rn_upd (by omega)]
    simp only [Int.natCast_add, Int.natCast_one]
  refine Kf_r ?_
  simp only [Tryz.f3, E4, E3, E2, E5, rawX, deadX, ET, T, EB, simprocAttr, DBY13, Opn.x, St.x, St.rx, St.ox, Book.x, bkO, bkR, bkE]
end Go.Proofs.YtdpflafjfkooeaaGreatDoorG
/- L24d: CostNext at what came in (.ZD's numbers). -/
namespace Go.Proofs.YtdpflafjfkooeaaGreatDoorG
open Go Go.RowKit Go.Proofs Go.Proofs.YtdpflafjfkooeaaGreatDoor
theorem typ_geo {n : Nat} {xs : List SV} (h : Typ T n 23 xs) : ∃ a b c : Int, xs = [.raw (.int .i64 a), .raw (.int .i64 b), .raw (.int .i64 c)] := by
  obtain ⟨xss, rfl, ha⟩ := h.struct' (by rfl)
  obtain ⟨x0, r0, rfl, h0, ha⟩ := all2_c1 ha
  obtain ⟨x1, r1, rfl, h1, ha⟩ := all2_c1 ha
  obtain ⟨x2, r2, rfl, h2, ha⟩ := all2_c1 ha
  have := all2_n ha
  subst this
  obtain ⟨m0, rfl, _⟩ := h0.int' (by rfl)
  obtain ⟨m1, rfl, _⟩ := h1.int' (by rfl)
  obtain ⟨m2, rfl, _⟩ := h2.int' (by rfl)
  exact ⟨m0, m1, m2, rfl⟩
def Book.cells (k : Book) : List SV := [.sl 1 (rn k.s.text), .sl 3 (chs k.s.undo), .sl 3 (chs k.s.redo), .raw (.int .i64 k.n), .raw (.int .i64 k.u)]
theorem typ_book {n : Nat} {xs : List SV} (h : Typ T n 29 xs) : ∃ k : Book, xs = k.cells ∧ k.s.upto n ∧ k.u ≤ 9223372036854775807 := by
  obtain ⟨xss, rfl, ha⟩ := h.struct' (by rfl)
  obtain ⟨x0, r0, rfl, h0, ha⟩ := all2_c1 ha
  obtain ⟨x1, r1, rfl, h1, ha⟩ := all2_c1 ha
  obtain ⟨x2, r2, rfl, h2, ha⟩ := all2_c1 ha
  have := all2_n ha
  subst this
  obtain ⟨s, rfl, hs⟩ := typ_state h0
  obtain ⟨m1, rfl, _⟩ := h1.int' (by rfl)
  obtain ⟨m2, rfl, _, hm⟩ := h2.int' (by rfl)
  have e : IntKind.i64.max = 9223372036854775807 := by decide
  rw [e] at hm
  exact ⟨⟨s, m1, m2⟩, rfl, hs, hm⟩
theorem costNext_in {W : World} {v0 v1 v2 : Value} {xs0 xs1 xs2 : List SV} (t0 : Typ T 1048576 23 xs0) (a0 : XR W (gI W) v0 (.p (.agg (xs0.map .v)))) (t1 : Typ T 1048576 29 xs1) (a1 : XR W (gI W) v1 (.p (.agg (xs1.map .v))))
    (t2 : Typ T 1048576 31 xs2) (a2 : XR W (gI W) v2 (.p (.agg (xs2.map .v)))) (hg : W.cell? ⟨0, 0, none⟩ = some GV) :
    Calls Tryz.prog 3 #[v0, v1, v2] W fun e W' => e = .returned (.bool true) ∧ Below W.heap.size W W' := by
  obtain ⟨a, b, c, rfl⟩ := typ_geo t0
  obtain ⟨k, rfl, h1, hu⟩ := typ_book t1
  obtain ⟨o, rfl, h2⟩ := typ_op t2
  exact law_calls (next_law a b c k o h1 hu h2) (.cons a0 (.cons a1 (.cons a2 .nil))) (gr_gI hg)
end Go.Proofs.YtdpflafjfkooeaaGreatDoorG
