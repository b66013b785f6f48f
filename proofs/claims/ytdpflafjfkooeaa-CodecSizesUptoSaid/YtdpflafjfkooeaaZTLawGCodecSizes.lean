/- YtdpflafjfkooeaaZTLawGCodecSizes: a part of the proof, joined of its texts. -/
import Derived.Test.YtdpflafjfkooeaaZ24
/- L23: layer 23's laws at what came in: texts of numbers, operations, states, bytes. -/
namespace Go.Proofs.YtdpflafjfkooeaaG
open Go Go.RowKit Go.Proofs Go.Proofs.Ytdpflafjfkooeaa Go.Proofs.YtdpflafjfkooeaaG.Dec
set_option linter.unusedVariables false
set_option linter.unusedSimpArgs false
theorem typ_ops23 {n : Nat} {x : SV} (h : Typ T n 59 [x]) : ∃ l : List Opn, x = .sl 4 (ops l) ∧ l.length ≤ n ∧ ∀ o ∈ l, o.upto n := by
  obtain ⟨xss, e, hl, hx⟩ := h.sl' (by rfl) (by rfl)
  obtain ⟨l, rfl, hp⟩ := choose_l (p := fun c => Opn.upto n c) (f := Opn.cells) fun ys hys => typ_op (hx ys hys)
  rw [flat_map] at e
  simp only [List.cons.injEq, and_true] at e
  exact ⟨l, e, by simpa using hl, hp⟩
end Go.Proofs.YtdpflafjfkooeaaG
/- R3: the document's reader, in plain Lean, comes to what the readings come to. -/
namespace Go.Proofs.YtdpflafjfkooeaaG
open Go Go.RowKit Go.Proofs Go.Proofs.YtdpflafjfkooeaaG.Dec
set_option linter.unusedSimpArgs false
set_option linter.unusedVariables false
abbrev RS := Nat × Int
def tkS (B : List Int) (s : RS) (n : Int) : List Int × RS := if s.2 = 0 then (if n ≤ (B.length : Int) - s.1 then ((B.drop s.1).take n.toNat, (s.1 + n.toNat, 0)) else ([], (s.1, 20))) else ([], s)
theorem tk_ok {B s n} (h : s.2 = 0) (h1 : n ≤ (B.length : Int) - s.1) : tkS B s n = ((B.drop s.1).take n.toNat, (s.1 + n.toNat, 0)) := by unfold tkS; rw [if_pos h, if_pos h1]
theorem tk_short {B s n} (h : s.2 = 0) (h1 : ¬ n ≤ (B.length : Int) - s.1) : tkS B s n = ([], (s.1, 20)) := by unfold tkS; rw [if_pos h, if_neg h1]
theorem tk_err {B s n} (h : ¬ s.2 = 0) : tkS B s n = ([], s) := if_neg h
def numS (B : List Int) (s : RS) : Int × RS := if (tkS B s 4).2.2 = 0 then (numR (tkS B s 4).1, ((tkS B s 4).2.1, if numR (tkS B s 4).1 > 2147483647 then 50 else 0)) else (0, (tkS B s 4).2)
theorem nu_ok {B s} (h : s.2 = 0) (h1 : 4 ≤ (B.length : Int) - s.1) (h2 : ¬ numR (B.drop s.1) > 2147483647) : numS B s = (numR (B.drop s.1), (s.1 + 4, 0)) := by
  unfold numS; rw [tk_ok h h1]
  simp only [show (4 : Int).toNat = 4 from rfl, numR_take, if_true]
  rw [if_neg h2]
theorem nu_big {B s} (h : s.2 = 0) (h1 : 4 ≤ (B.length : Int) - s.1) (h2 : numR (B.drop s.1) > 2147483647) : numS B s = (numR (B.drop s.1), (s.1 + 4, 50)) := by
  unfold numS; rw [tk_ok h h1]
  simp only [show (4 : Int).toNat = 4 from rfl, numR_take, if_true]
  rw [if_pos h2]
theorem nu_short {B s} (h : s.2 = 0) (h1 : ¬ 4 ≤ (B.length : Int) - s.1) : numS B s = (0, (s.1, 20)) := by
  unfold numS; rw [tk_short h h1]
  rfl
theorem nu_err {B s} (h : ¬ s.2 = 0) : numS B s = (0, s) := by
  unfold numS; rw [tk_err h]
  exact if_neg h
/-- So many bytes as a text. -/
def txS (B : List Int) (n : Int) (s : RS) : List Int × RS := ((dec (tkS B s n).1).1, ((tkS B s n).2.1, if (tkS B s n).2.2 = 0 then (dec (tkS B s n).1).2.2 else (tkS B s n).2.2))
def textS (B : List Int) (s : RS) : List Int × RS := txS B (numS B s).1 (numS B s).2
def lsN (B : List Int) : Nat → RS → List Ch × RS
  | 0, s => ([], s)
  | k + 1, s => if s.2 = 0 then (⟨(numS B s).1, (textS B (numS B s).2).1, (textS B (textS B (numS B s).2).2).1⟩ :: (lsN B k (textS B (textS B (numS B s).2).2).2).1, (lsN B k (textS B (textS B (numS B s).2).2).2).2) else ([], s)
theorem tk_at {B s n} (h : s.1 ≤ B.length) : (tkS B s n).2.1 ≤ B.length := by
  by_cases h0 : s.2 = 0
  · by_cases h1 : n ≤ (B.length : Int) - s.1
    · rw [tk_ok h0 h1]; show s.1 + n.toNat ≤ _; omega
    · rw [tk_short h0 h1]; exact h
  · rw [tk_err h0]; exact h
theorem numR_le {xs : List Int} (h : Bytes xs) : numR xs ≤ 4294967295 := by
  have b0 := rd_bd h 0; have b1 := rd_bd h 1; have b2 := rd_bd h 2; have b3 := rd_bd h 3
  unfold numR
  omega
theorem nu_bd {B s} (hB : Bytes B) (h : s.1 ≤ B.length) : 0 ≤ (numS B s).1 ∧ (numS B s).1 ≤ 4294967295 ∧ (numS B s).2.1 ≤ B.length := by
  have n0 := numR_nn (hB.drop s.1)
  have n1 := numR_le (hB.drop s.1)
  by_cases h0 : s.2 = 0
  · by_cases h1 : 4 ≤ (B.length : Int) - s.1
    · by_cases h2 : numR (B.drop s.1) > 2147483647
      · rw [nu_big h0 h1 h2]; exact ⟨n0, n1, by show s.1 + 4 ≤ _; omega⟩
      · rw [nu_ok h0 h1 h2]; exact ⟨n0, n1, by show s.1 + 4 ≤ _; omega⟩
    · rw [nu_short h0 h1]; exact ⟨by omega, by show (0 : Int) ≤ _; omega, h⟩
  · rw [nu_err h0]; exact ⟨by omega, by show (0 : Int) ≤ _; omega, h⟩
theorem text_at {B s} (hB : Bytes B) (h : s.1 ≤ B.length) : (textS B s).2.1 ≤ B.length := tk_at (nu_bd hB h).2.2
/-- A reader's step is a reading. -/
def Sim {α : Type} (B : List Int) (f : RS → α × RS) (R : List Int → RR α) : Prop := ∀ s : RS, s.1 ≤ B.length → (f s).2.1 ≤ B.length ∧ (s.2 ≠ 0 → (f s).2.2 = s.2) ∧ (s.2 = 0 → match R (B.drop s.1) with
  | .ok a r => (f s).1 = a ∧ (f s).2.2 = 0 ∧ B.drop (f s).2.1 = r
  | .bad e => (f s).2.2 = e ∧ e ≠ 0)
theorem Sim.bind {α β : Type} {B f} {R : List Int → RR α} {g : α → RS → β × RS} {S : α → List Int → RR β} (h : Sim B f R) (h2 : ∀ a, Sim B (g a) (S a)) : Sim B (fun s => g (f s).1 (f s).2) (fun xs => (R xs).bind S) := by
  intro s hs
  obtain ⟨a1, a2, a3⟩ := h s hs
  obtain ⟨b1, b2, b3⟩ := h2 (f s).1 (f s).2 a1
  refine ⟨b1, fun h0 => ?_, fun h0 => ?_⟩
  · have q := a2 h0
    show (g (f s).1 (f s).2).2.2 = _
    rw [b2 (by rw [q]; exact h0), q]
  · have q := a3 h0
    show match (R (B.drop s.1)).bind S with | .ok a r => _ | .bad e => _
    cases hr : R (B.drop s.1) with
    | ok a r =>
      rw [hr] at q
      obtain ⟨rfl, q2, rfl⟩ := q
      rw [RR.bind_okE]
      exact b3 q2
    | bad e =>
      rw [hr] at q
      rw [RR.bind_badE]
      obtain ⟨q1, q2⟩ := q
      exact ⟨by show (g (f s).1 (f s).2).2.2 = e; rw [b2 (by rw [q1]; exact q2), q1], q2⟩
theorem Sim.pure {α : Type} {B} (a : α) : Sim B (fun s => (a, s)) (fun xs => .ok a xs) := fun s hs => ⟨hs, fun _ => rfl, fun h => ⟨rfl, h, rfl⟩⟩
theorem Sim.congr {α : Type} {B f} {R S : List Int → RR α} (h : Sim B f S) (hB : Bytes B) (e : ∀ xs, Bytes xs → R xs = S xs) : Sim B f R := fun s hs => by
  obtain ⟨a1, a2, a3⟩ := h s hs
  refine ⟨a1, a2, fun h0 => ?_⟩
  rw [e _ (hB.drop _)]
  exact a3 h0
end Go.Proofs.YtdpflafjfkooeaaG
namespace Go.Proofs.YtdpflafjfkooeaaG
open Go Go.RowKit Go.Proofs Go.Proofs.YtdpflafjfkooeaaG.Dec
set_option linter.unusedSimpArgs false
set_option linter.unusedVariables false
structure LsI (B : List Int) (n : Nat) (s0 : RS) (z : Nat × List Ch × RS) : Prop where
  le : z.1 ≤ n
  at_ : z.2.2.1 ≤ B.length
  cnt : z.2.1.length = z.1
  eq : lsN B n s0 = (z.2.1 ++ (lsN B (n - z.1) z.2.2).1, (lsN B (n - z.1) z.2.2).2)
theorem LsI.next {B n s0 z} (h : LsI B n s0 z) (hB : Bytes B) (hlt : z.1 < n) (he : z.2.2.2 = 0) : LsI B n s0 (z.1 + 1, z.2.1 ++ [⟨(numS B z.2.2).1, (textS B (numS B z.2.2).2).1, (textS B (textS B (numS B z.2.2).2).2).1⟩], (textS B (textS B (numS B z.2.2).2).2).2) :=
  ⟨hlt, text_at hB (text_at hB (nu_bd hB h.at_).2.2), by simp [h.cnt], by
    rw [h.eq, show n - z.1 = (n - (z.1 + 1)) + 1 by omega, lsN, if_pos he]
    simp⟩
theorem LsI.done {B n s0 z} (h : LsI B n s0 z) (hd : ¬ z.1 < n ∨ ¬ z.2.2.2 = 0) : lsN B n s0 = (z.2.1, z.2.2) := by
  rw [h.eq]
  by_cases hl : z.1 < n
  · have he : ¬ z.2.2.2 = 0 := hd.resolve_left (fun q => q hl)
    rw [show n - z.1 = (n - (z.1 + 1)) + 1 by omega, lsN, if_neg he]
    simp
  · rw [show n - z.1 = 0 by omega, lsN]
    simp
end Go.Proofs.YtdpflafjfkooeaaG
namespace Go.Proofs.YtdpflafjfkooeaaG
open Go Go.RowKit Go.Proofs Go.Proofs.YtdpflafjfkooeaaG.Dec
set_option linter.unusedSimpArgs false
set_option linter.unusedVariables false
set_option maxRecDepth 10000 in
set_option maxHeartbeats 4000000 in
theorem bytes32_ok (l : List Int) (h : R32s l) (hl : l.length ≤ 2000000) : CallOk Try.prog 32 [sl (rn l)] (i64 (textN l)) [] true := by
  refine fn_ok' T_ok (orc_ok _) mixed Try.func32 rfl (by kernel_rfl) (lv [[0], [0, 3], [3, 6, 7, 8], [3, 6, 7, 8, 9], [3, 5, 6, 7, 8], [3, 6, 7, 8], [3, 6, 7, 8], [2]]) 18 rfl (by simp) rfl (by simp [X.all, PX.all, TV.rawR, SV.isRaw]) ?_
  simp only [argsG, Nat.zero_add, Nat.reduceAdd]
  repeat' first
    | ((first
        | ((with_reducible refine vR_cons (by decide) ?_); generalize hk : KtR _ _ _ _ _ _ _ _ _ _ = k)
        | ((first
        | with_reducible refine vOps_cons' ?_) <;> generalize hk : Kt _ _ _ _ _ _ _ _ _ = k)) <;> (simp only [Try.f32, lv, E1, E2, E5, ET, T, orc_mv, noO_mv, mvB, orc_bx, noO_bx, bxB, fwd, fwds, inv, mOk, Int.toNat_natCast, Nat.div_one, Nat.mul_one, Int.reduceToNat, SB, List.not_mem_nil, ↓reduceIte, ne_eq, reduceCtorEq, Nat.reduceLT, Nat.reduceEqDiff, Nat.reduceAdd, Nat.reduceMul, Nat.reduceLeDiff, Nat.reduceDiv, Nat.reduceMod, Nat.reduceSub, Nat.reduceBEq, List.length_map, bs_len, rn_len, chs_len, chs_cnt, ops_len, ops_cnt, Opn.x, St.x, St.rx]; (try simp (disch := omega) only [wrap_in, Int.toNat_natCast, tv_rn, tv_ch0, tv_ch1, tv_ch2, tv_op0, tv_op1, tv_op2, tv_op3]); subst hk))
    | with_reducible first | refine Kt_p ?_ | refine Kt_i (by kernel_rfl) ?_ | refine Kr_f (by kernel_rfl) ?_
    | (with_reducible refine Kr_t ?_; simp only [List.length_append, List.length_cons, List.length_nil, Nat.reduceAdd, Nat.reduceSub, List.drop_succ_cons, List.drop_zero])
    | with_reducible first | refine vR_nil ?_ | refine KtR_i (by kernel_rfl) ?_ | refine KrR_i (by kernel_rfl) ?_ | refine vR_skip (by decide) ?_
    | ((with_reducible refine vB_i ?_ ?_) <;> intro _ <;> (first | (exfalso; omega) | (exact absurd trivial ‹¬True›) | (try dsimp only [])))
    | ((with_reducible refine vOps_nil' ?_); refine Kr_i (by kernel_rfl) ?_; generalize hk : plain _ _ = G; simp only [lv, E3, E2, E5, rawX, deadX, SB, List.not_mem_nil, ↓reduceIte, ne_eq, reduceCtorEq, Nat.reduceLT, Nat.reduceEqDiff, Nat.reduceAdd, Nat.reduceMul, Nat.reduceLeDiff, Nat.reduceDiv, Nat.reduceMod, Nat.reduceSub, Nat.reduceBEq, List.length_map, bs_len, rn_len, chs_len, chs_cnt, ops_len, ops_cnt, Opn.x, St.x, St.rx] at hk; subst hk)
    | with_reducible refine vSeq_i ?_
    | with_reducible first | refine vRegion_i (by kernel_rfl) ?_ | refine Kv_i ?_
    | ((with_reducible apply vStrK_i); (focus (rfl; done)))
    | ((with_reducible refine imp_i ?_); intro _)
    | with_reducible first | refine Ks_n ?_ | refine Ks_r ?_ | refine Ks_e ?_ | refine Kl_e ?_ | refine Kx_n ?_ | refine Kl_r ?_ | refine vRet_i ?_ | refine vSkip_i ?_ | refine vExit_i ?_ | refine vBlock_i ?_ | refine Ks_p ?_ | refine Kl_p ?_ | refine blk_p ?_ | exact Kb_p | refine vGoto_i ?_ | refine vLabel_i ?_ | refine Ks_g ?_ | refine Kl_g ?_ | refine blk_g ?_ | refine jmp_g ?_ | refine jmp_n ?_ | refine jmp_r ?_ | refine nog_n ?_ | refine nog_r ?_ | refine blk_n ?_ | refine blk_r ?_ | refine blk_e ?_ | refine blk_o (by decide) ?_ | refine cp_t ?_ | refine cp_f ?_
    | ((with_reducible apply vCond_x); (focus (simp only [lv, E1, E2, E5, ET, T, orc_mv, noO_mv, mvB, orc_bx, noO_bx, bxB, fwd, fwds, inv, mOk, Int.toNat_natCast, Nat.div_one, Nat.mul_one, Int.reduceToNat, SB, List.not_mem_nil, ↓reduceIte, ne_eq, reduceCtorEq, Nat.reduceLT, Nat.reduceEqDiff, Nat.reduceAdd, Nat.reduceMul, Nat.reduceLeDiff, Nat.reduceDiv, Nat.reduceMod, Nat.reduceSub, Nat.reduceBEq, List.length_map, bs_len, rn_len, chs_len, chs_cnt, ops_len, ops_cnt, Opn.x, St.x, St.rx]; with_reducible first | exact Eq.refl (bo true) | exact Eq.refl (bo false))))
    | ((with_reducible refine And.intro ?_ ?_); (focus (try omega)))
  refine vLoop_s (fun k : Nat => [(.t 3, .t (i64 (textN (l.take k)))), (.t 6, .t (sl (rn l))), (.t 7, .t (i64 l.length)), (.t 8, .t (i64 k))]) (fun k => k ≤ l.length) (fun k => l.length - k) 0 (by omega) rfl ?_
  intro k hk
  have hb := textN_le (l.take k)
  rw [List.length_take] at hb
  have hz := szU_le (l.getD k 0)
  repeat' first
    | ((first
        | ((with_reducible refine vR_cons (by decide) ?_); generalize hk : KtR _ _ _ _ _ _ _ _ _ _ = k)
        | ((first
        | with_reducible refine vOps_cons' ?_
        | ((with_reducible apply orc_i); (focus (exact size_ok _ (h.at (by omega)); done)))) <;> generalize hk : Kt _ _ _ _ _ _ _ _ _ = k)) <;> (simp only [Try.f32, lv, E1, E2, E5, ET, T, orc_mv, noO_mv, mvB, orc_bx, noO_bx, bxB, fwd, fwds, inv, mOk, Int.toNat_natCast, Nat.div_one, Nat.mul_one, Int.reduceToNat, SB, List.not_mem_nil, ↓reduceIte, ne_eq, reduceCtorEq, Nat.reduceLT, Nat.reduceEqDiff, Nat.reduceAdd, Nat.reduceMul, Nat.reduceLeDiff, Nat.reduceDiv, Nat.reduceMod, Nat.reduceSub, Nat.reduceBEq, List.length_map, bs_len, rn_len, chs_len, chs_cnt, ops_len, ops_cnt, Opn.x, St.x, St.rx]; (try simp (disch := omega) only [wrap_in, Int.toNat_natCast, tv_rn, tv_ch0, tv_ch1, tv_ch2, tv_op0, tv_op1, tv_op2, tv_op3]); subst hk))
    | with_reducible first | refine Kt_p ?_ | refine Kt_i (by kernel_rfl) ?_ | refine Kr_f (by kernel_rfl) ?_
    | (with_reducible refine Kr_t ?_; simp only [List.length_append, List.length_cons, List.length_nil, Nat.reduceAdd, Nat.reduceSub, List.drop_succ_cons, List.drop_zero])
    | with_reducible first | refine vR_nil ?_ | refine KtR_i (by kernel_rfl) ?_ | refine KrR_i (by kernel_rfl) ?_ | refine vR_skip (by decide) ?_
    | ((with_reducible refine vB_i ?_ ?_) <;> intro _ <;> (first | (exfalso; omega) | (exact absurd trivial ‹¬True›) | (try dsimp only [])))
    | ((with_reducible refine vOps_nil' ?_); refine Kr_i (by kernel_rfl) ?_; generalize hk : plain _ _ = G; simp only [lv, E3, E2, E5, rawX, deadX, SB, List.not_mem_nil, ↓reduceIte, ne_eq, reduceCtorEq, Nat.reduceLT, Nat.reduceEqDiff, Nat.reduceAdd, Nat.reduceMul, Nat.reduceLeDiff, Nat.reduceDiv, Nat.reduceMod, Nat.reduceSub, Nat.reduceBEq, List.length_map, bs_len, rn_len, chs_len, chs_cnt, ops_len, ops_cnt, Opn.x, St.x, St.rx] at hk; subst hk)
    | with_reducible refine vSeq_i ?_
    | with_reducible first | refine vRegion_i (by kernel_rfl) ?_ | refine Kv_i ?_
    | ((with_reducible apply vStrK_i); (focus (rfl; done)))
    | ((with_reducible refine imp_i ?_); intro _)
    | with_reducible first | refine Ks_n ?_ | refine Ks_r ?_ | refine Ks_e ?_ | refine Kl_e ?_ | refine Kx_n ?_ | refine Kl_r ?_ | refine vRet_i ?_ | refine vSkip_i ?_ | refine vExit_i ?_ | refine vBlock_i ?_ | refine Ks_p ?_ | refine Kl_p ?_ | refine blk_p ?_ | exact Kb_p | refine vGoto_i ?_ | refine vLabel_i ?_ | refine Ks_g ?_ | refine Kl_g ?_ | refine blk_g ?_ | refine jmp_g ?_ | refine jmp_n ?_ | refine jmp_r ?_ | refine nog_n ?_ | refine nog_r ?_ | refine blk_n ?_ | refine blk_r ?_ | refine blk_e ?_ | refine blk_o (by decide) ?_ | refine cp_t ?_ | refine cp_f ?_
    | ((with_reducible apply vCond_x); (focus (simp only [lv, E1, E2, E5, ET, T, orc_mv, noO_mv, mvB, orc_bx, noO_bx, bxB, fwd, fwds, inv, mOk, Int.toNat_natCast, Nat.div_one, Nat.mul_one, Int.reduceToNat, SB, List.not_mem_nil, ↓reduceIte, ne_eq, reduceCtorEq, Nat.reduceLT, Nat.reduceEqDiff, Nat.reduceAdd, Nat.reduceMul, Nat.reduceLeDiff, Nat.reduceDiv, Nat.reduceMod, Nat.reduceSub, Nat.reduceBEq, List.length_map, bs_len, rn_len, chs_len, chs_cnt, ops_len, ops_cnt, Opn.x, St.x, St.rx]; with_reducible first | exact Eq.refl (bo true) | exact Eq.refl (bo false))))
    | ((with_reducible refine And.intro ?_ ?_); (focus (try omega)))
  · refine Kl_n ⟨k + 1, by omega, by omega, ?_⟩
    rw [textN_1 (by omega)]
    simp only [Int.natCast_add, Int.natCast_one]
  · refine Kf_r ?_
    rw [List.take_of_length_le (by omega)]
    simp only [Try.f32, E4, E3, E2, E5, rawX, deadX, ET, T, SB, List.not_mem_nil, ↓reduceIte, ne_eq, reduceCtorEq, Nat.reduceLT, Nat.reduceEqDiff, Nat.reduceAdd, Nat.reduceMul, Nat.reduceLeDiff, Nat.reduceDiv, Nat.reduceMod, Nat.reduceSub, Nat.reduceBEq, List.length_map, bs_len, rn_len, chs_len, chs_cnt, ops_len, ops_cnt, Opn.x, St.x, St.rx]
def sN (s : St) (i : Int) : Int := if i = 0 then 0 else if i = 1 then sumN s.undo else (sumN s.undo : Int) + sumN s.redo
theorem sN_0 (s : St) : sN s 0 = 0 := rfl
theorem sN_1 (s : St) : sN s 1 = sumN s.undo := rfl
theorem sN_2 (s : St) : sN s 2 = (sumN s.undo : Int) + sumN s.redo := rfl
theorem opF_len1 {o : Opn} (h : (opF o).2 = 0) (k : o.kind = 1) : ((opF o).1.length : Int) = 5 + (textN o.text : Int) := by
  by_cases hn : isI o.at_ = false ∨ o.text = []
  · rw [opF_err1 k hn] at h; exact absurd h (by decide)
  by_cases hs : scal o.text
  rotate_left
  · rw [opF_scal k hn hs] at h; exact absurd h (by decide)
  by_cases hb : 5 + (encF o.text).length > 4096
  · rw [opF_big k hn hs hb] at h; exact absurd h (by decide)
  rw [opF_ins k hn hs hb, textN_scal hs, show encV o.text = encF o.text from if_pos hs]
  simp only [List.length_cons, List.length_append, numB_len]; omega
theorem opF_len2 {o : Opn} (h : (opF o).2 = 0) (k : o.kind = 2) : (opF o).1.length = 9 := by
  by_cases hn : isI o.at_ = false ∨ isI o.to_ = false
  · rw [opF_err2 k hn] at h; exact absurd h (by decide)
  · rw [opF_del k hn]; rfl
theorem opF_len3 {o : Opn} (h : (opF o).2 = 0) (k1 : ¬ o.kind = 1) (k2 : ¬ o.kind = 2) : (opF o).1.length = 1 := by
  by_cases k3 : o.kind = 3 ∨ o.kind = 4
  · rw [opF_un k3]; rfl
  · rw [opF_no k1 k2 (by omega) (by omega)] at h; exact absurd h (by decide)
set_option maxRecDepth 10000 in
set_option maxHeartbeats 16000000 in
theorem codecSizes_law (l : List Opn) (hl : l.length ≤ 2000000) (h : ∀ o ∈ l, R32s o.text) (h2 : ∀ o ∈ l, o.text.length ≤ 2000000) : CallOk Try.prog 9 [sln 4 (ops l)] (bo true) [] true := by
  have w := works23_ok
  have hwr := written_ok goes_ok l hl h h2
  have hs := wrN_ok h (min l.length 40) (Nat.min_le_left _ _)
  have hs0 := wrN_right h (min l.length 40) (Nat.min_le_left _ _)
  generalize wrN l (min l.length 40) = s at hwr hs hs0
  have c1 := wstate_ok 0 s hs
  rw [stF_B isI_0 hs0] at c1
  have hlen := stB_len isI_0 hs0
  rw [bytesF, sumN_app] at hlen
  have ht := textN_le s.text
  have htl := hs.len
  have hul := hs.ulen
  have hrl := hs.rlen
  have su := sumN_le (l := s.undo) fun c hc => (hs.undo c hc).small
  have sr := sumN_le (l := s.redo) fun c hc => (hs.redo c hc).small
  generalize stB 0 s = z at c1 hlen
  refine fn_ok' T_ok (orc_ok _) mixed Try.func9 rfl (by kernel_rfl) (lv [[0], [0, 16], [2], [0, 3], [0, 3, 4], [0, 3, 4, 27, 28, 29, 1000027], [0, 3, 4, 27, 28, 29, 30], [0, 3, 4, 6, 27, 28, 29], [0, 3, 4, 27, 28, 29, 33, 34, 35], [0, 3, 4, 27, 28, 29, 33, 34, 35, 36], [0, 3, 4, 8, 27, 28, 29, 33, 34, 35], [0, 3, 4, 27, 28, 29, 33, 34, 35], [0, 3, 4, 27, 28, 29, 33, 34, 35], [0, 3, 4, 27, 28, 29], [0, 4, 9, 10, 1000009], [0, 63], [2], [0, 11], [0, 11, 71], [0, 11], [0, 11, 12, 13, 1000012], [0, 11, 12, 83], [0, 11, 12, 14], [0, 11, 12, 14, 88], [0, 11, 12, 14, 88, 89], [0, 11, 12, 14], [0, 11, 12, 14, 98], [0, 11, 12, 14], [0, 11, 103], [2], [2]]) 104 rfl (by simp) rfl (by simp [X.all, PX.all, TV.rawR, SV.isRaw]) ?_
  simp only [argsG, Nat.zero_add, Nat.reduceAdd]
  repeat' first
    | ((first
        | ((with_reducible refine vR_cons (by decide) ?_); generalize hk : KtR _ _ _ _ _ _ _ _ _ _ = k)
        | ((first
        | with_reducible refine vOps_cons' ?_
        | ((with_reducible apply orc_b); (focus (exact w; done)); (all_goals (intro hb; (try simp only [decide_eq_true_eq, decide_eq_false_iff_not, Bool.not_eq_true', Bool.not_eq_false', Bool.and_eq_true, Decidable.not_not] at hb))))
        | ((with_reducible apply orc_i); (focus (exact hwr; done)))
        | ((with_reducible apply orc_i); (focus (exact bytes32_ok _ hs.run (by omega); done)))) <;> generalize hk : Kt _ _ _ _ _ _ _ _ _ = k)) <;> (simp only [Try.f9, lv, E1, E2, E5, ET, T, orc_mv, noO_mv, mvB, orc_bx, noO_bx, bxB, fwd, fwds, inv, mOk, Int.toNat_natCast, Nat.div_one, Nat.mul_one, Int.reduceToNat, SB, List.not_mem_nil, ↓reduceIte, ne_eq, reduceCtorEq, Nat.reduceLT, Nat.reduceEqDiff, Nat.reduceAdd, Nat.reduceMul, Nat.reduceLeDiff, Nat.reduceDiv, Nat.reduceMod, Nat.reduceSub, Nat.reduceBEq, List.length_map, bs_len, rn_len, chs_len, chs_cnt, ops_len, ops_cnt, Opn.x, St.x, St.rx]; (try simp (disch := omega) only [wrap_in, Int.toNat_natCast, tv_rn, tv_ch0, tv_ch1, tv_ch2, tv_op0, tv_op1, tv_op2, tv_op3]); subst hk))
    | with_reducible first | refine Kt_p ?_ | refine Kt_i (by kernel_rfl) ?_ | refine Kr_f (by kernel_rfl) ?_
    | (with_reducible refine Kr_t ?_; simp only [List.length_append, List.length_cons, List.length_nil, Nat.reduceAdd, Nat.reduceSub, List.drop_succ_cons, List.drop_zero])
    | with_reducible first | refine vR_nil ?_ | refine KtR_i (by kernel_rfl) ?_ | refine KrR_i (by kernel_rfl) ?_ | refine vR_skip (by decide) ?_
    | ((with_reducible refine vB_i ?_ ?_) <;> intro _ <;> (first | (exfalso; omega) | (exact absurd trivial ‹¬True›) | (try dsimp only [])))
    | ((with_reducible refine vOps_nil' ?_); refine Kr_i (by kernel_rfl) ?_; generalize hk : plain _ _ = G; simp only [lv, E3, E2, E5, rawX, deadX, SB, List.not_mem_nil, ↓reduceIte, ne_eq, reduceCtorEq, Nat.reduceLT, Nat.reduceEqDiff, Nat.reduceAdd, Nat.reduceMul, Nat.reduceLeDiff, Nat.reduceDiv, Nat.reduceMod, Nat.reduceSub, Nat.reduceBEq, List.length_map, bs_len, rn_len, chs_len, chs_cnt, ops_len, ops_cnt, Opn.x, St.x, St.rx] at hk; subst hk)
    | with_reducible refine vSeq_i ?_
    | with_reducible first | refine vRegion_i (by kernel_rfl) ?_ | refine Kv_i ?_
    | ((with_reducible apply vStrK_i); (focus (rfl; done)))
    | ((with_reducible refine imp_i ?_); intro _)
    | with_reducible first | refine Ks_n ?_ | refine Ks_r ?_ | refine Ks_e ?_ | refine Kl_e ?_ | refine Kx_n ?_ | refine Kl_r ?_ | refine vRet_i ?_ | refine vSkip_i ?_ | refine vExit_i ?_ | refine vBlock_i ?_ | refine Ks_p ?_ | refine Kl_p ?_ | refine blk_p ?_ | exact Kb_p | refine vGoto_i ?_ | refine vLabel_i ?_ | refine Ks_g ?_ | refine Kl_g ?_ | refine blk_g ?_ | refine jmp_g ?_ | refine jmp_n ?_ | refine jmp_r ?_ | refine nog_n ?_ | refine nog_r ?_ | refine blk_n ?_ | refine blk_r ?_ | refine blk_e ?_ | refine blk_o (by decide) ?_ | refine cp_t ?_ | refine cp_f ?_
    | ((with_reducible apply vCond_x); (focus (simp only [lv, E1, E2, E5, ET, T, orc_mv, noO_mv, mvB, orc_bx, noO_bx, bxB, fwd, fwds, inv, mOk, Int.toNat_natCast, Nat.div_one, Nat.mul_one, Int.reduceToNat, SB, List.not_mem_nil, ↓reduceIte, ne_eq, reduceCtorEq, Nat.reduceLT, Nat.reduceEqDiff, Nat.reduceAdd, Nat.reduceMul, Nat.reduceLeDiff, Nat.reduceDiv, Nat.reduceMod, Nat.reduceSub, Nat.reduceBEq, List.length_map, bs_len, rn_len, chs_len, chs_cnt, ops_len, ops_cnt, Opn.x, St.x, St.rx]; with_reducible first | exact Eq.refl (bo true) | exact Eq.refl (bo false))))
    | ((with_reducible refine And.intro ?_ ?_); (focus (try omega)))
  all_goals try (exfalso; exact absurd hb (by decide))
  have hsu : sumN s.undo ≤ 1600001200000 := by omega
  have hsr : sumN s.redo ≤ 1600001200000 := by omega
  refine vLoop_s (fun i : Int => [(.t 0, .t (sln 4 (ops l))), (.t 3, .t (.p (.one (.pr 0 0)))), (.t 4, .t (i64 (10 + (textN s.text : Int) + sN s i))), (.t 27, .t (sl [.sl 3 (chs s.undo), .sl 3 (chs s.redo)])), (.t 28, .t (i64 2)), (.t 29, .t (i64 i)), (.box 0, .box 25 [.v (.sl 1 (rn s.text)), .v (.sl 3 (chs s.undo)), .v (.sl 3 (chs s.redo))])]) (fun i => i = 0 ∨ i = 1 ∨ i = 2) (fun i => (2 - i).toNat) 0 (.inl rfl) (by rw [sN_0, Int.add_zero]; rfl) ?_
  rintro i (rfl | rfl | rfl)
  · skip
    repeat' first
      | ((first
          | ((with_reducible refine vR_cons (by decide) ?_); generalize hk : KtR _ _ _ _ _ _ _ _ _ _ = k)
          | ((first
          | with_reducible refine vOps_cons' ?_) <;> generalize hk : Kt _ _ _ _ _ _ _ _ _ = k)) <;> (simp only [Try.f9, lv, E1, E2, E5, ET, T, orc_mv, noO_mv, mvB, orc_bx, noO_bx, bxB, fwd, fwds, inv, mOk, Int.toNat_natCast, Nat.div_one, Nat.mul_one, Int.reduceToNat, SB, List.not_mem_nil, ↓reduceIte, ne_eq, reduceCtorEq, Nat.reduceLT, Nat.reduceEqDiff, Nat.reduceAdd, Nat.reduceMul, Nat.reduceLeDiff, Nat.reduceDiv, Nat.reduceMod, Nat.reduceSub, Nat.reduceBEq, List.length_map, bs_len, rn_len, chs_len, chs_cnt, ops_len, ops_cnt, Opn.x, St.x, St.rx]; (try simp (disch := omega) only [wrap_in, Int.toNat_natCast, tv_rn, tv_ch0, tv_ch1, tv_ch2, tv_op0, tv_op1, tv_op2, tv_op3]); subst hk))
      | with_reducible first | refine Kt_p ?_ | refine Kt_i (by kernel_rfl) ?_ | refine Kr_f (by kernel_rfl) ?_
      | (with_reducible refine Kr_t ?_; simp only [List.length_append, List.length_cons, List.length_nil, Nat.reduceAdd, Nat.reduceSub, List.drop_succ_cons, List.drop_zero])
      | with_reducible first | refine vR_nil ?_ | refine KtR_i (by kernel_rfl) ?_ | refine KrR_i (by kernel_rfl) ?_ | refine vR_skip (by decide) ?_
      | ((with_reducible refine vB_i ?_ ?_) <;> intro _ <;> (first | (exfalso; omega) | (exact absurd trivial ‹¬True›) | (try dsimp only [])))
      | ((with_reducible refine vOps_nil' ?_); refine Kr_i (by kernel_rfl) ?_; generalize hk : plain _ _ = G; simp only [lv, E3, E2, E5, rawX, deadX, SB, List.not_mem_nil, ↓reduceIte, ne_eq, reduceCtorEq, Nat.reduceLT, Nat.reduceEqDiff, Nat.reduceAdd, Nat.reduceMul, Nat.reduceLeDiff, Nat.reduceDiv, Nat.reduceMod, Nat.reduceSub, Nat.reduceBEq, List.length_map, bs_len, rn_len, chs_len, chs_cnt, ops_len, ops_cnt, Opn.x, St.x, St.rx] at hk; subst hk)
      | with_reducible refine vSeq_i ?_
      | with_reducible first | refine vRegion_i (by kernel_rfl) ?_ | refine Kv_i ?_
      | ((with_reducible apply vStrK_i); (focus (rfl; done)))
      | ((with_reducible refine imp_i ?_); intro _)
      | with_reducible first | refine Ks_n ?_ | refine Ks_r ?_ | refine Ks_e ?_ | refine Kl_e ?_ | refine Kx_n ?_ | refine Kl_r ?_ | refine vRet_i ?_ | refine vSkip_i ?_ | refine vExit_i ?_ | refine vBlock_i ?_ | refine Ks_p ?_ | refine Kl_p ?_ | refine blk_p ?_ | exact Kb_p | refine vGoto_i ?_ | refine vLabel_i ?_ | refine Ks_g ?_ | refine Kl_g ?_ | refine blk_g ?_ | refine jmp_g ?_ | refine jmp_n ?_ | refine jmp_r ?_ | refine nog_n ?_ | refine nog_r ?_ | refine blk_n ?_ | refine blk_r ?_ | refine blk_e ?_ | refine blk_o (by decide) ?_ | refine cp_t ?_ | refine cp_f ?_
      | ((with_reducible apply vCond_x); (focus (simp only [lv, E1, E2, E5, ET, T, orc_mv, noO_mv, mvB, orc_bx, noO_bx, bxB, fwd, fwds, inv, mOk, Int.toNat_natCast, Nat.div_one, Nat.mul_one, Int.reduceToNat, SB, List.not_mem_nil, ↓reduceIte, ne_eq, reduceCtorEq, Nat.reduceLT, Nat.reduceEqDiff, Nat.reduceAdd, Nat.reduceMul, Nat.reduceLeDiff, Nat.reduceDiv, Nat.reduceMod, Nat.reduceSub, Nat.reduceBEq, List.length_map, bs_len, rn_len, chs_len, chs_cnt, ops_len, ops_cnt, Opn.x, St.x, St.rx]; with_reducible first | exact Eq.refl (bo true) | exact Eq.refl (bo false))))
      | ((with_reducible refine And.intro ?_ ?_); (focus (try omega)))
    all_goals try omega
    refine vLoop_s (fun k : Nat => [(.t 0, .t (sln 4 (ops l))), (.t 3, .t (.p (.one (.pr 0 0)))), (.t 4, .t (i64 (10 + (textN s.text : Int) + (sumN (s.undo.take k) : Int)))), (.t 27, .t (sl [.sl 3 (chs s.undo), .sl 3 (chs s.redo)])), (.t 28, .t (i64 2)), (.t 29, .t (i64 0)), (.t 33, .t (sln 3 (chs s.undo))), (.t 34, .t (i64 s.undo.length)), (.t 35, .t (i64 k)), (.box 0, .box 25 [.v (.sl 1 (rn s.text)), .v (.sl 3 (chs s.undo)), .v (.sl 3 (chs s.redo))])]) (fun k => k ≤ s.undo.length) (fun k => s.undo.length - k) 0 (Nat.zero_le _) (by rw [sN_0]; rfl) ?_
    intro k hk
    have hb2 := sumN_le (l := s.undo.take k) fun c hc => (hs.undo c (List.mem_of_mem_take hc)).small
    rw [List.length_take] at hb2
    have hc := fun h : k < s.undo.length => hs.undo _ (mem_getD h)
    have b1 := fun h : k < s.undo.length => Nat.le_trans (textN_le (s.undo.getD k noCh).gone) (Nat.mul_le_mul_left 4 (hc h).gone)
    have b2 := fun h : k < s.undo.length => Nat.le_trans (textN_le (s.undo.getD k noCh).came) (Nat.mul_le_mul_left 4 (hc h).came)
    repeat' first
      | ((first
          | ((with_reducible refine vR_cons (by decide) ?_); generalize hk : KtR _ _ _ _ _ _ _ _ _ _ = k)
          | ((first
          | with_reducible refine vOps_cons' ?_
          | ((with_reducible apply orc_i); (focus (exact bytes32_ok _ (hc (by omega)).rgone (Nat.le_trans (hc (by omega)).gone (by omega)); done)))
          | ((with_reducible apply orc_i); (focus (exact bytes32_ok _ (hc (by omega)).rcame (Nat.le_trans (hc (by omega)).came (by omega)); done)))) <;> generalize hk : Kt _ _ _ _ _ _ _ _ _ = k)) <;> (simp only [Try.f9, lv, E1, E2, E5, ET, T, orc_mv, noO_mv, mvB, orc_bx, noO_bx, bxB, fwd, fwds, inv, mOk, Int.toNat_natCast, Nat.div_one, Nat.mul_one, Int.reduceToNat, SB, List.not_mem_nil, ↓reduceIte, ne_eq, reduceCtorEq, Nat.reduceLT, Nat.reduceEqDiff, Nat.reduceAdd, Nat.reduceMul, Nat.reduceLeDiff, Nat.reduceDiv, Nat.reduceMod, Nat.reduceSub, Nat.reduceBEq, List.length_map, bs_len, rn_len, chs_len, chs_cnt, ops_len, ops_cnt, Opn.x, St.x, St.rx]; (try simp (disch := omega) only [wrap_in, Int.toNat_natCast, tv_rn, tv_ch0, tv_ch1, tv_ch2, tv_op0, tv_op1, tv_op2, tv_op3]); subst hk))
      | with_reducible first | refine Kt_p ?_ | refine Kt_i (by kernel_rfl) ?_ | refine Kr_f (by kernel_rfl) ?_
      | (with_reducible refine Kr_t ?_; simp only [List.length_append, List.length_cons, List.length_nil, Nat.reduceAdd, Nat.reduceSub, List.drop_succ_cons, List.drop_zero])
      | with_reducible first | refine vR_nil ?_ | refine KtR_i (by kernel_rfl) ?_ | refine KrR_i (by kernel_rfl) ?_ | refine vR_skip (by decide) ?_
      | ((with_reducible refine vB_i ?_ ?_) <;> intro _ <;> (first | (exfalso; omega) | (exact absurd trivial ‹¬True›) | (try dsimp only [])))
      | ((with_reducible refine vOps_nil' ?_); refine Kr_i (by kernel_rfl) ?_; generalize hk : plain _ _ = G; simp only [lv, E3, E2, E5, rawX, deadX, SB, List.not_mem_nil, ↓reduceIte, ne_eq, reduceCtorEq, Nat.reduceLT, Nat.reduceEqDiff, Nat.reduceAdd, Nat.reduceMul, Nat.reduceLeDiff, Nat.reduceDiv, Nat.reduceMod, Nat.reduceSub, Nat.reduceBEq, List.length_map, bs_len, rn_len, chs_len, chs_cnt, ops_len, ops_cnt, Opn.x, St.x, St.rx] at hk; subst hk)
      | with_reducible refine vSeq_i ?_
      | with_reducible first | refine vRegion_i (by kernel_rfl) ?_ | refine Kv_i ?_
      | ((with_reducible apply vStrK_i); (focus (rfl; done)))
      | ((with_reducible refine imp_i ?_); intro _)
      | with_reducible first | refine Ks_n ?_ | refine Ks_r ?_ | refine Ks_e ?_ | refine Kl_e ?_ | refine Kx_n ?_ | refine Kl_r ?_ | refine vRet_i ?_ | refine vSkip_i ?_ | refine vExit_i ?_ | refine vBlock_i ?_ | refine Ks_p ?_ | refine Kl_p ?_ | refine blk_p ?_ | exact Kb_p | refine vGoto_i ?_ | refine vLabel_i ?_ | refine Ks_g ?_ | refine Kl_g ?_ | refine blk_g ?_ | refine jmp_g ?_ | refine jmp_n ?_ | refine jmp_r ?_ | refine nog_n ?_ | refine nog_r ?_ | refine blk_n ?_ | refine blk_r ?_ | refine blk_e ?_ | refine blk_o (by decide) ?_ | refine cp_t ?_ | refine cp_f ?_
      | ((with_reducible apply vCond_x); (focus (simp only [lv, E1, E2, E5, ET, T, orc_mv, noO_mv, mvB, orc_bx, noO_bx, bxB, fwd, fwds, inv, mOk, Int.toNat_natCast, Nat.div_one, Nat.mul_one, Int.reduceToNat, SB, List.not_mem_nil, ↓reduceIte, ne_eq, reduceCtorEq, Nat.reduceLT, Nat.reduceEqDiff, Nat.reduceAdd, Nat.reduceMul, Nat.reduceLeDiff, Nat.reduceDiv, Nat.reduceMod, Nat.reduceSub, Nat.reduceBEq, List.length_map, bs_len, rn_len, chs_len, chs_cnt, ops_len, ops_cnt, Opn.x, St.x, St.rx]; with_reducible first | exact Eq.refl (bo true) | exact Eq.refl (bo false))))
      | ((with_reducible refine And.intro ?_ ?_); (focus (try omega)))
    all_goals try omega
    · have hk2 : k < s.undo.length := by omega
      refine Kl_n ⟨k + 1, by omega, by omega, ?_⟩
      have e : 10 + (textN s.text : Int) + (sumN (s.undo.take (k + 1)) : Int) = 10 + (textN s.text : Int) + (sumN (s.undo.take k) : Int) + (12 + (textN (s.undo.getD k noCh).gone : Int) + (textN (s.undo.getD k noCh).came : Int)) := by
        rw [sumN_1 hk2]; omega
      rw [e]
      simp only [Int.natCast_add, Int.natCast_one]
    · refine Kl_n ⟨1, .inr (.inl rfl), by decide, ?_⟩
      rw [List.take_of_length_le (by omega), sN_1]
      rfl
  · skip
    repeat' first
      | ((first
          | ((with_reducible refine vR_cons (by decide) ?_); generalize hk : KtR _ _ _ _ _ _ _ _ _ _ = k)
          | ((first
          | with_reducible refine vOps_cons' ?_) <;> generalize hk : Kt _ _ _ _ _ _ _ _ _ = k)) <;> (simp only [Try.f9, lv, E1, E2, E5, ET, T, orc_mv, noO_mv, mvB, orc_bx, noO_bx, bxB, fwd, fwds, inv, mOk, Int.toNat_natCast, Nat.div_one, Nat.mul_one, Int.reduceToNat, SB, List.not_mem_nil, ↓reduceIte, ne_eq, reduceCtorEq, Nat.reduceLT, Nat.reduceEqDiff, Nat.reduceAdd, Nat.reduceMul, Nat.reduceLeDiff, Nat.reduceDiv, Nat.reduceMod, Nat.reduceSub, Nat.reduceBEq, List.length_map, bs_len, rn_len, chs_len, chs_cnt, ops_len, ops_cnt, Opn.x, St.x, St.rx]; (try simp (disch := omega) only [wrap_in, Int.toNat_natCast, tv_rn, tv_ch0, tv_ch1, tv_ch2, tv_op0, tv_op1, tv_op2, tv_op3]); subst hk))
      | with_reducible first | refine Kt_p ?_ | refine Kt_i (by kernel_rfl) ?_ | refine Kr_f (by kernel_rfl) ?_
      | (with_reducible refine Kr_t ?_; simp only [List.length_append, List.length_cons, List.length_nil, Nat.reduceAdd, Nat.reduceSub, List.drop_succ_cons, List.drop_zero])
      | with_reducible first | refine vR_nil ?_ | refine KtR_i (by kernel_rfl) ?_ | refine KrR_i (by kernel_rfl) ?_ | refine vR_skip (by decide) ?_
      | ((with_reducible refine vB_i ?_ ?_) <;> intro _ <;> (first | (exfalso; omega) | (exact absurd trivial ‹¬True›) | (try dsimp only [])))
      | ((with_reducible refine vOps_nil' ?_); refine Kr_i (by kernel_rfl) ?_; generalize hk : plain _ _ = G; simp only [lv, E3, E2, E5, rawX, deadX, SB, List.not_mem_nil, ↓reduceIte, ne_eq, reduceCtorEq, Nat.reduceLT, Nat.reduceEqDiff, Nat.reduceAdd, Nat.reduceMul, Nat.reduceLeDiff, Nat.reduceDiv, Nat.reduceMod, Nat.reduceSub, Nat.reduceBEq, List.length_map, bs_len, rn_len, chs_len, chs_cnt, ops_len, ops_cnt, Opn.x, St.x, St.rx] at hk; subst hk)
      | with_reducible refine vSeq_i ?_
      | with_reducible first | refine vRegion_i (by kernel_rfl) ?_ | refine Kv_i ?_
      | ((with_reducible apply vStrK_i); (focus (rfl; done)))
      | ((with_reducible refine imp_i ?_); intro _)
      | with_reducible first | refine Ks_n ?_ | refine Ks_r ?_ | refine Ks_e ?_ | refine Kl_e ?_ | refine Kx_n ?_ | refine Kl_r ?_ | refine vRet_i ?_ | refine vSkip_i ?_ | refine vExit_i ?_ | refine vBlock_i ?_ | refine Ks_p ?_ | refine Kl_p ?_ | refine blk_p ?_ | exact Kb_p | refine vGoto_i ?_ | refine vLabel_i ?_ | refine Ks_g ?_ | refine Kl_g ?_ | refine blk_g ?_ | refine jmp_g ?_ | refine jmp_n ?_ | refine jmp_r ?_ | refine nog_n ?_ | refine nog_r ?_ | refine blk_n ?_ | refine blk_r ?_ | refine blk_e ?_ | refine blk_o (by decide) ?_ | refine cp_t ?_ | refine cp_f ?_
      | ((with_reducible apply vCond_x); (focus (simp only [lv, E1, E2, E5, ET, T, orc_mv, noO_mv, mvB, orc_bx, noO_bx, bxB, fwd, fwds, inv, mOk, Int.toNat_natCast, Nat.div_one, Nat.mul_one, Int.reduceToNat, SB, List.not_mem_nil, ↓reduceIte, ne_eq, reduceCtorEq, Nat.reduceLT, Nat.reduceEqDiff, Nat.reduceAdd, Nat.reduceMul, Nat.reduceLeDiff, Nat.reduceDiv, Nat.reduceMod, Nat.reduceSub, Nat.reduceBEq, List.length_map, bs_len, rn_len, chs_len, chs_cnt, ops_len, ops_cnt, Opn.x, St.x, St.rx]; with_reducible first | exact Eq.refl (bo true) | exact Eq.refl (bo false))))
      | ((with_reducible refine And.intro ?_ ?_); (focus (try omega)))
    all_goals try omega
    refine vLoop_s (fun k : Nat => [(.t 0, .t (sln 4 (ops l))), (.t 3, .t (.p (.one (.pr 0 0)))), (.t 4, .t (i64 (10 + (textN s.text : Int) + (sumN s.undo : Int) + (sumN (s.redo.take k) : Int)))), (.t 27, .t (sl [.sl 3 (chs s.undo), .sl 3 (chs s.redo)])), (.t 28, .t (i64 2)), (.t 29, .t (i64 1)), (.t 33, .t (sln 3 (chs s.redo))), (.t 34, .t (i64 s.redo.length)), (.t 35, .t (i64 k)), (.box 0, .box 25 [.v (.sl 1 (rn s.text)), .v (.sl 3 (chs s.undo)), .v (.sl 3 (chs s.redo))])]) (fun k => k ≤ s.redo.length) (fun k => s.redo.length - k) 0 (Nat.zero_le _) (by rw [sN_1, show s.redo.take 0 = [] from rfl, show ((sumN [] : Nat) : Int) = 0 from rfl, Int.add_zero]; rfl) ?_
    intro k hk
    have hb2 := sumN_le (l := s.redo.take k) fun c hc => (hs.redo c (List.mem_of_mem_take hc)).small
    rw [List.length_take] at hb2
    have hc := fun h : k < s.redo.length => hs.redo _ (mem_getD h)
    have b1 := fun h : k < s.redo.length => Nat.le_trans (textN_le (s.redo.getD k noCh).gone) (Nat.mul_le_mul_left 4 (hc h).gone)
    have b2 := fun h : k < s.redo.length => Nat.le_trans (textN_le (s.redo.getD k noCh).came) (Nat.mul_le_mul_left 4 (hc h).came)
    repeat' first
      | ((first
          | ((with_reducible refine vR_cons (by decide) ?_); generalize hk : KtR _ _ _ _ _ _ _ _ _ _ = k)
          | ((first
          | with_reducible refine vOps_cons' ?_
          | ((with_reducible apply orc_i); (focus (exact bytes32_ok _ (hc (by omega)).rgone (Nat.le_trans (hc (by omega)).gone (by omega)); done)))
          | ((with_reducible apply orc_i); (focus (exact bytes32_ok _ (hc (by omega)).rcame (Nat.le_trans (hc (by omega)).came (by omega)); done)))) <;> generalize hk : Kt _ _ _ _ _ _ _ _ _ = k)) <;> (simp only [Try.f9, lv, E1, E2, E5, ET, T, orc_mv, noO_mv, mvB, orc_bx, noO_bx, bxB, fwd, fwds, inv, mOk, Int.toNat_natCast, Nat.div_one, Nat.mul_one, Int.reduceToNat, SB, List.not_mem_nil, ↓reduceIte, ne_eq, reduceCtorEq, Nat.reduceLT, Nat.reduceEqDiff, Nat.reduceAdd, Nat.reduceMul, Nat.reduceLeDiff, Nat.reduceDiv, Nat.reduceMod, Nat.reduceSub, Nat.reduceBEq, List.length_map, bs_len, rn_len, chs_len, chs_cnt, ops_len, ops_cnt, Opn.x, St.x, St.rx]; (try simp (disch := omega) only [wrap_in, Int.toNat_natCast, tv_rn, tv_ch0, tv_ch1, tv_ch2, tv_op0, tv_op1, tv_op2, tv_op3]); subst hk))
      | with_reducible first | refine Kt_p ?_ | refine Kt_i (by kernel_rfl) ?_ | refine Kr_f (by kernel_rfl) ?_
      | (with_reducible refine Kr_t ?_; simp only [List.length_append, List.length_cons, List.length_nil, Nat.reduceAdd, Nat.reduceSub, List.drop_succ_cons, List.drop_zero])
      | with_reducible first | refine vR_nil ?_ | refine KtR_i (by kernel_rfl) ?_ | refine KrR_i (by kernel_rfl) ?_ | refine vR_skip (by decide) ?_
      | ((with_reducible refine vB_i ?_ ?_) <;> intro _ <;> (first | (exfalso; omega) | (exact absurd trivial ‹¬True›) | (try dsimp only [])))
      | ((with_reducible refine vOps_nil' ?_); refine Kr_i (by kernel_rfl) ?_; generalize hk : plain _ _ = G; simp only [lv, E3, E2, E5, rawX, deadX, SB, List.not_mem_nil, ↓reduceIte, ne_eq, reduceCtorEq, Nat.reduceLT, Nat.reduceEqDiff, Nat.reduceAdd, Nat.reduceMul, Nat.reduceLeDiff, Nat.reduceDiv, Nat.reduceMod, Nat.reduceSub, Nat.reduceBEq, List.length_map, bs_len, rn_len, chs_len, chs_cnt, ops_len, ops_cnt, Opn.x, St.x, St.rx] at hk; subst hk)
      | with_reducible refine vSeq_i ?_
      | with_reducible first | refine vRegion_i (by kernel_rfl) ?_ | refine Kv_i ?_
      | ((with_reducible apply vStrK_i); (focus (rfl; done)))
      | ((with_reducible refine imp_i ?_); intro _)
      | with_reducible first | refine Ks_n ?_ | refine Ks_r ?_ | refine Ks_e ?_ | refine Kl_e ?_ | refine Kx_n ?_ | refine Kl_r ?_ | refine vRet_i ?_ | refine vSkip_i ?_ | refine vExit_i ?_ | refine vBlock_i ?_ | refine Ks_p ?_ | refine Kl_p ?_ | refine blk_p ?_ | exact Kb_p | refine vGoto_i ?_ | refine vLabel_i ?_ | refine Ks_g ?_ | refine Kl_g ?_ | refine blk_g ?_ | refine jmp_g ?_ | refine jmp_n ?_ | refine jmp_r ?_ | refine nog_n ?_ | refine nog_r ?_ | refine blk_n ?_ | refine blk_r ?_ | refine blk_e ?_ | refine blk_o (by decide) ?_ | refine cp_t ?_ | refine cp_f ?_
      | ((with_reducible apply vCond_x); (focus (simp only [lv, E1, E2, E5, ET, T, orc_mv, noO_mv, mvB, orc_bx, noO_bx, bxB, fwd, fwds, inv, mOk, Int.toNat_natCast, Nat.div_one, Nat.mul_one, Int.reduceToNat, SB, List.not_mem_nil, ↓reduceIte, ne_eq, reduceCtorEq, Nat.reduceLT, Nat.reduceEqDiff, Nat.reduceAdd, Nat.reduceMul, Nat.reduceLeDiff, Nat.reduceDiv, Nat.reduceMod, Nat.reduceSub, Nat.reduceBEq, List.length_map, bs_len, rn_len, chs_len, chs_cnt, ops_len, ops_cnt, Opn.x, St.x, St.rx]; with_reducible first | exact Eq.refl (bo true) | exact Eq.refl (bo false))))
      | ((with_reducible refine And.intro ?_ ?_); (focus (try omega)))
    all_goals try omega
    · have hk2 : k < s.redo.length := by omega
      refine Kl_n ⟨k + 1, by omega, by omega, ?_⟩
      have e : 10 + (textN s.text : Int) + (sumN s.undo : Int) + (sumN (s.redo.take (k + 1)) : Int) = 10 + (textN s.text : Int) + (sumN s.undo : Int) + (sumN (s.redo.take k) : Int) + (12 + (textN (s.redo.getD k noCh).gone : Int) + (textN (s.redo.getD k noCh).came : Int)) := by
        rw [sumN_1 hk2]; omega
      rw [e]
      simp only [Int.natCast_add, Int.natCast_one]
    · refine Kl_n ⟨2, .inr (.inr rfl), by decide, ?_⟩
      rw [List.take_of_length_le (by omega), sN_2, Int.add_assoc (10 + (textN s.text : Int))]
      rfl
  · rw [sN_2]
    repeat' first
      | ((first
          | ((with_reducible refine vR_cons (by decide) ?_); generalize hk : KtR _ _ _ _ _ _ _ _ _ _ = k)
          | ((first
          | with_reducible refine vOps_cons' ?_
          | ((with_reducible apply orc_i); (focus (exact c1; done)))) <;> generalize hk : Kt _ _ _ _ _ _ _ _ _ = k)) <;> (simp only [Try.f9, lv, E1, E2, E5, ET, T, orc_mv, noO_mv, mvB, orc_bx, noO_bx, bxB, fwd, fwds, inv, mOk, Int.toNat_natCast, Nat.div_one, Nat.mul_one, Int.reduceToNat, SB, List.not_mem_nil, ↓reduceIte, ne_eq, reduceCtorEq, Nat.reduceLT, Nat.reduceEqDiff, Nat.reduceAdd, Nat.reduceMul, Nat.reduceLeDiff, Nat.reduceDiv, Nat.reduceMod, Nat.reduceSub, Nat.reduceBEq, List.length_map, bs_len, rn_len, chs_len, chs_cnt, ops_len, ops_cnt, Opn.x, St.x, St.rx]; (try simp (disch := omega) only [wrap_in, Int.toNat_natCast, tv_rn, tv_ch0, tv_ch1, tv_ch2, tv_op0, tv_op1, tv_op2, tv_op3]); subst hk))
      | with_reducible first | refine Kt_p ?_ | refine Kt_i (by kernel_rfl) ?_ | refine Kr_f (by kernel_rfl) ?_
      | (with_reducible refine Kr_t ?_; simp only [List.length_append, List.length_cons, List.length_nil, Nat.reduceAdd, Nat.reduceSub, List.drop_succ_cons, List.drop_zero])
      | with_reducible first | refine vR_nil ?_ | refine KtR_i (by kernel_rfl) ?_ | refine KrR_i (by kernel_rfl) ?_ | refine vR_skip (by decide) ?_
      | ((with_reducible refine vB_i ?_ ?_) <;> intro _ <;> (first | (exfalso; omega) | (exact absurd trivial ‹¬True›) | (try dsimp only [])))
      | ((with_reducible refine vOps_nil' ?_); refine Kr_i (by kernel_rfl) ?_; generalize hk : plain _ _ = G; simp only [lv, E3, E2, E5, rawX, deadX, SB, List.not_mem_nil, ↓reduceIte, ne_eq, reduceCtorEq, Nat.reduceLT, Nat.reduceEqDiff, Nat.reduceAdd, Nat.reduceMul, Nat.reduceLeDiff, Nat.reduceDiv, Nat.reduceMod, Nat.reduceSub, Nat.reduceBEq, List.length_map, bs_len, rn_len, chs_len, chs_cnt, ops_len, ops_cnt, Opn.x, St.x, St.rx] at hk; subst hk)
      | with_reducible refine vSeq_i ?_
      | with_reducible first | refine vRegion_i (by kernel_rfl) ?_ | refine Kv_i ?_
      | ((with_reducible apply vStrK_i); (focus (rfl; done)))
      | ((with_reducible refine imp_i ?_); intro _)
      | with_reducible first | refine Ks_n ?_ | refine Ks_r ?_ | refine Ks_e ?_ | refine Kl_e ?_ | refine Kx_n ?_ | refine Kl_r ?_ | refine vRet_i ?_ | refine vSkip_i ?_ | refine vExit_i ?_ | refine vBlock_i ?_ | refine Ks_p ?_ | refine Kl_p ?_ | refine blk_p ?_ | exact Kb_p | refine vGoto_i ?_ | refine vLabel_i ?_ | refine Ks_g ?_ | refine Kl_g ?_ | refine blk_g ?_ | refine jmp_g ?_ | refine jmp_n ?_ | refine jmp_r ?_ | refine nog_n ?_ | refine nog_r ?_ | refine blk_n ?_ | refine blk_r ?_ | refine blk_e ?_ | refine blk_o (by decide) ?_ | refine cp_t ?_ | refine cp_f ?_
      | ((with_reducible apply vCond_x); (focus (simp only [lv, E1, E2, E5, ET, T, orc_mv, noO_mv, mvB, orc_bx, noO_bx, bxB, fwd, fwds, inv, mOk, Int.toNat_natCast, Nat.div_one, Nat.mul_one, Int.reduceToNat, SB, List.not_mem_nil, ↓reduceIte, ne_eq, reduceCtorEq, Nat.reduceLT, Nat.reduceEqDiff, Nat.reduceAdd, Nat.reduceMul, Nat.reduceLeDiff, Nat.reduceDiv, Nat.reduceMod, Nat.reduceSub, Nat.reduceBEq, List.length_map, bs_len, rn_len, chs_len, chs_cnt, ops_len, ops_cnt, Opn.x, St.x, St.rx]; with_reducible first | exact Eq.refl (bo true) | exact Eq.refl (bo false))))
      | ((with_reducible refine And.intro ?_ ?_); (focus (try omega)))
    all_goals try (exfalso; omega)
    refine vLoop_s (fun j : Nat => [(.t 0, .t (sln 4 (ops l))), (.t 11, .t (i64 j))]) (fun j => j ≤ l.length) (fun j => l.length - j) 0 (Nat.zero_le _) rfl ?_
    intro j hj
    have hle := opF_le (l.getD j noOp)
    have q1 := opF_len1 (o := l.getD j noOp)
    have q2 := opF_len2 (o := l.getD j noOp)
    have q3 := opF_len3 (o := l.getD j noOp)
    have q4 := textN_le (l.getD j noOp).text
    have q5 := fun h : j < l.length => h2 (l.getD j noOp) (memO h)
    repeat' first
      | ((first
          | ((with_reducible refine vR_cons (by decide) ?_); generalize hk : KtR _ _ _ _ _ _ _ _ _ _ = k)
          | ((first
          | with_reducible refine vOps_cons' ?_
          | ((with_reducible apply orc_i); (focus (exact wop_ok (l.getD j noOp) (h _ (memO (by omega))) (h2 _ (memO (by omega))); done)))
          | ((with_reducible apply orc_i); (focus (exact bytes32_ok _ (h _ (memO (by omega))) (h2 _ (memO (by omega))); done)))) <;> generalize hk : Kt _ _ _ _ _ _ _ _ _ = k)) <;> (simp only [Try.f9, lv, E1, E2, E5, ET, T, orc_mv, noO_mv, mvB, orc_bx, noO_bx, bxB, fwd, fwds, inv, mOk, Int.toNat_natCast, Nat.div_one, Nat.mul_one, Int.reduceToNat, SB, List.not_mem_nil, ↓reduceIte, ne_eq, reduceCtorEq, Nat.reduceLT, Nat.reduceEqDiff, Nat.reduceAdd, Nat.reduceMul, Nat.reduceLeDiff, Nat.reduceDiv, Nat.reduceMod, Nat.reduceSub, Nat.reduceBEq, List.length_map, bs_len, rn_len, chs_len, chs_cnt, ops_len, ops_cnt, Opn.x, St.x, St.rx]; (try simp (disch := omega) only [wrap_in, Int.toNat_natCast, tv_rn, tv_ch0, tv_ch1, tv_ch2, tv_op0, tv_op1, tv_op2, tv_op3]); subst hk))
      | with_reducible first | refine Kt_p ?_ | refine Kt_i (by kernel_rfl) ?_ | refine Kr_f (by kernel_rfl) ?_
      | (with_reducible refine Kr_t ?_; simp only [List.length_append, List.length_cons, List.length_nil, Nat.reduceAdd, Nat.reduceSub, List.drop_succ_cons, List.drop_zero])
      | with_reducible first | refine vR_nil ?_ | refine KtR_i (by kernel_rfl) ?_ | refine KrR_i (by kernel_rfl) ?_ | refine vR_skip (by decide) ?_
      | ((with_reducible refine vB_i ?_ ?_) <;> intro _ <;> (first | (exfalso; omega) | (exact absurd trivial ‹¬True›) | (try dsimp only [])))
      | ((with_reducible refine vOps_nil' ?_); refine Kr_i (by kernel_rfl) ?_; generalize hk : plain _ _ = G; simp only [lv, E3, E2, E5, rawX, deadX, SB, List.not_mem_nil, ↓reduceIte, ne_eq, reduceCtorEq, Nat.reduceLT, Nat.reduceEqDiff, Nat.reduceAdd, Nat.reduceMul, Nat.reduceLeDiff, Nat.reduceDiv, Nat.reduceMod, Nat.reduceSub, Nat.reduceBEq, List.length_map, bs_len, rn_len, chs_len, chs_cnt, ops_len, ops_cnt, Opn.x, St.x, St.rx] at hk; subst hk)
      | with_reducible refine vSeq_i ?_
      | with_reducible first | refine vRegion_i (by kernel_rfl) ?_ | refine Kv_i ?_
      | ((with_reducible apply vStrK_i); (focus (rfl; done)))
      | ((with_reducible refine imp_i ?_); intro _)
      | with_reducible first | refine Ks_n ?_ | refine Ks_r ?_ | refine Ks_e ?_ | refine Kl_e ?_ | refine Kx_n ?_ | refine Kl_r ?_ | refine vRet_i ?_ | refine vSkip_i ?_ | refine vExit_i ?_ | refine vBlock_i ?_ | refine Ks_p ?_ | refine Kl_p ?_ | refine blk_p ?_ | exact Kb_p | refine vGoto_i ?_ | refine vLabel_i ?_ | refine Ks_g ?_ | refine Kl_g ?_ | refine blk_g ?_ | refine jmp_g ?_ | refine jmp_n ?_ | refine jmp_r ?_ | refine nog_n ?_ | refine nog_r ?_ | refine blk_n ?_ | refine blk_r ?_ | refine blk_e ?_ | refine blk_o (by decide) ?_ | refine cp_t ?_ | refine cp_f ?_
      | ((with_reducible apply vCond_x); (focus (simp only [lv, E1, E2, E5, ET, T, orc_mv, noO_mv, mvB, orc_bx, noO_bx, bxB, fwd, fwds, inv, mOk, Int.toNat_natCast, Nat.div_one, Nat.mul_one, Int.reduceToNat, SB, List.not_mem_nil, ↓reduceIte, ne_eq, reduceCtorEq, Nat.reduceLT, Nat.reduceEqDiff, Nat.reduceAdd, Nat.reduceMul, Nat.reduceLeDiff, Nat.reduceDiv, Nat.reduceMod, Nat.reduceSub, Nat.reduceBEq, List.length_map, bs_len, rn_len, chs_len, chs_cnt, ops_len, ops_cnt, Opn.x, St.x, St.rx]; with_reducible first | exact Eq.refl (bo true) | exact Eq.refl (bo false))))
      | ((with_reducible refine And.intro ?_ ?_); (focus (try omega)))
    all_goals try (have := q5 (by omega); omega)
    all_goals first
      | (refine Kl_n ⟨j + 1, by omega, by omega, ?_⟩; simp only [Int.natCast_add, Int.natCast_one]; done)
      | (refine Kf_r ?_; simp only [Try.f9, E4, E3, E2, E5, rawX, deadX, ET, T, SB, List.not_mem_nil, ↓reduceIte, ne_eq, reduceCtorEq, Nat.reduceLT, Nat.reduceEqDiff, Nat.reduceAdd, Nat.reduceMul, Nat.reduceLeDiff, Nat.reduceDiv, Nat.reduceMod, Nat.reduceSub, Nat.reduceBEq, List.length_map, bs_len, rn_len, chs_len, chs_cnt, ops_len, ops_cnt, Opn.x, St.x, St.rx]; done)
      | trace_state
end Go.Proofs.YtdpflafjfkooeaaG
/- L23Sizes: CodecSizes at what came in. -/
namespace Go.Proofs.YtdpflafjfkooeaaG
open Go Go.RowKit Go.Proofs Go.Proofs.Ytdpflafjfkooeaa Go.Proofs.YtdpflafjfkooeaaG.Dec
theorem codecSizes_in {W : World} {v0 : Value} {x0 : SV} (t0 : Typ T 1048576 59 [x0]) (a0 : XR W (gI W) v0 (.p (.one (.v x0)))) :
    Calls Try.prog 9 #[v0] W fun e W' => e = .returned (.bool true) ∧ Below W.heap.size W W' := by
  obtain ⟨l, rfl, hl, ho⟩ := typ_ops23 t0
  exact law_calls (codecSizes_law l (by omega) (fun o h => (ho o h).run) (fun o h => Nat.le_trans (ho o h).len (by omega))) (.cons a0 .nil)
end Go.Proofs.YtdpflafjfkooeaaG
