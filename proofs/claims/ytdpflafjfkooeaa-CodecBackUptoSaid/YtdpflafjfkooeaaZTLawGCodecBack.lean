/- YtdpflafjfkooeaaZTLawGCodecBack: a part of the proof, joined of its texts. -/
import Derived.Test.YtdpflafjfkooeaaZ24
/- L23: layer 23's laws at what came in: texts of numbers, operations, states, bytes. -/
namespace Go.Proofs.YtdpflafjfkooeaaG
open Go Go.RowKit Go.Proofs Go.Proofs.Ytdpflafjfkooeaa Go.Proofs.YtdpflafjfkooeaaG.Dec
set_option linter.unusedVariables false
set_option linter.unusedSimpArgs false
theorem u8b {m : Int} (h : IntKind.u8.min ≤ m ∧ m ≤ IntKind.u8.max) : 0 ≤ m ∧ m ≤ 255 := by
  have h1 : IntKind.u8.min = 0 := by decide
  have h2 : IntKind.u8.max = 255 := by decide
  rw [h1, h2] at h; exact h
theorem typ_bytes {n : Nat} {x : SV} (h : Typ T n 41 [x]) : ∃ l : List Int, x = .sl 1 (bs l) ∧ Bytes l ∧ l.length ≤ n := by
  obtain ⟨l, e, h1, h2⟩ := h.ints (by rfl) (by rfl)
  simp only [List.cons.injEq, and_true] at e
  exact ⟨l, e, fun m hm => u8b (h1 m hm), h2⟩
end Go.Proofs.YtdpflafjfkooeaaG
namespace Go.Proofs.YtdpflafjfkooeaaG
open Go Go.RowKit Go.Proofs Go.Proofs.YtdpflafjfkooeaaG.Dec
set_option linter.unusedSimpArgs false
set_option linter.unusedVariables false
theorem rF_ok {l : List Int} {a : Opn} {rest : List Int} (h : readOp l = .ok a rest) : readOpF l = if l.length > 4096 then (zOp, 3) else (a, 0) := by unfold readOpF; rw [h]
theorem rF_bad {l : List Int} {e : Int} (h : readOp l = .bad e) : readOpF l = (zOp, e) := by unfold readOpF; rw [h]
end Go.Proofs.YtdpflafjfkooeaaG
/- R3: the document's reader, in plain Lean, comes to what the readings come to. -/
namespace Go.Proofs.YtdpflafjfkooeaaG
open Go Go.RowKit Go.Proofs Go.Proofs.YtdpflafjfkooeaaG.Dec
set_option linter.unusedSimpArgs false
set_option linter.unusedVariables false
abbrev RS := Nat × Int
def tkS (B : List Int) (s : RS) (n : Int) : List Int × RS := if s.2 = 0 then (if n ≤ (B.length : Int) - s.1 then ((B.drop s.1).take n.toNat, (s.1 + n.toNat, 0)) else ([], (s.1, 20))) else ([], s)
theorem tk_ok {B s n} (h : s.2 = 0) (h1 : n ≤ (B.length : Int) - s.1) : tkS B s n = ((B.drop s.1).take n.toNat, (s.1 + n.toNat, 0)) := by unfold tkS; rw [if_pos h, if_pos h1]
theorem tk_short {B s n} (h : s.2 = 0) (h1 : ¬ n ≤ (B.length : Int) - s.1) : tkS B s n = ([], (s.1, 20)) := by unfold tkS; rw [if_pos h, if_neg h1]
theorem tk_err {B s n} (h : ¬ s.2 = 0) : tkS B s n = ([], s) := if_neg h
def numS (B : List Int) (s : RS) : Int × RS := if (tkS B s 4).2.2 = 0 then (numR (tkS B s 4).1, ((tkS B s 4).2.1, if numR (tkS B s 4).1 > 2147483647 then 50 else 0)) else (0, (tkS B s 4).2)
theorem nu_ok {B s} (h : s.2 = 0) (h1 : 4 ≤ (B.length : Int) - s.1) (h2 : ¬ numR (B.drop s.1) > 2147483647) : numS B s = (numR (B.drop s.1), (s.1 + 4, 0)) := by
  unfold numS; rw [tk_ok h h1]
  simp only [show (4 : Int).toNat = 4 from rfl, numR_take, if_true]
  rw [if_neg h2]
theorem nu_big {B s} (h : s.2 = 0) (h1 : 4 ≤ (B.length : Int) - s.1) (h2 : numR (B.drop s.1) > 2147483647) : numS B s = (numR (B.drop s.1), (s.1 + 4, 50)) := by
  unfold numS; rw [tk_ok h h1]
  simp only [show (4 : Int).toNat = 4 from rfl, numR_take, if_true]
  rw [if_pos h2]
theorem nu_short {B s} (h : s.2 = 0) (h1 : ¬ 4 ≤ (B.length : Int) - s.1) : numS B s = (0, (s.1, 20)) := by
  unfold numS; rw [tk_short h h1]
  rfl
theorem nu_err {B s} (h : ¬ s.2 = 0) : numS B s = (0, s) := by
  unfold numS; rw [tk_err h]
  exact if_neg h
/-- So many bytes as a text. -/
def txS (B : List Int) (n : Int) (s : RS) : List Int × RS := ((dec (tkS B s n).1).1, ((tkS B s n).2.1, if (tkS B s n).2.2 = 0 then (dec (tkS B s n).1).2.2 else (tkS B s n).2.2))
def textS (B : List Int) (s : RS) : List Int × RS := txS B (numS B s).1 (numS B s).2
def lsN (B : List Int) : Nat → RS → List Ch × RS
  | 0, s => ([], s)
  | k + 1, s => if s.2 = 0 then (⟨(numS B s).1, (textS B (numS B s).2).1, (textS B (textS B (numS B s).2).2).1⟩ :: (lsN B k (textS B (textS B (numS B s).2).2).2).1, (lsN B k (textS B (textS B (numS B s).2).2).2).2) else ([], s)
theorem tk_at {B s n} (h : s.1 ≤ B.length) : (tkS B s n).2.1 ≤ B.length := by
  by_cases h0 : s.2 = 0
  · by_cases h1 : n ≤ (B.length : Int) - s.1
    · rw [tk_ok h0 h1]; show s.1 + n.toNat ≤ _; omega
    · rw [tk_short h0 h1]; exact h
  · rw [tk_err h0]; exact h
theorem numR_le {xs : List Int} (h : Bytes xs) : numR xs ≤ 4294967295 := by
  have b0 := rd_bd h 0; have b1 := rd_bd h 1; have b2 := rd_bd h 2; have b3 := rd_bd h 3
  unfold numR
  omega
theorem nu_bd {B s} (hB : Bytes B) (h : s.1 ≤ B.length) : 0 ≤ (numS B s).1 ∧ (numS B s).1 ≤ 4294967295 ∧ (numS B s).2.1 ≤ B.length := by
  have n0 := numR_nn (hB.drop s.1)
  have n1 := numR_le (hB.drop s.1)
  by_cases h0 : s.2 = 0
  · by_cases h1 : 4 ≤ (B.length : Int) - s.1
    · by_cases h2 : numR (B.drop s.1) > 2147483647
      · rw [nu_big h0 h1 h2]; exact ⟨n0, n1, by show s.1 + 4 ≤ _; omega⟩
      · rw [nu_ok h0 h1 h2]; exact ⟨n0, n1, by show s.1 + 4 ≤ _; omega⟩
    · rw [nu_short h0 h1]; exact ⟨by omega, by show (0 : Int) ≤ _; omega, h⟩
  · rw [nu_err h0]; exact ⟨by omega, by show (0 : Int) ≤ _; omega, h⟩
theorem text_at {B s} (hB : Bytes B) (h : s.1 ≤ B.length) : (textS B s).2.1 ≤ B.length := tk_at (nu_bd hB h).2.2
/-- A reader's step is a reading. -/
def Sim {α : Type} (B : List Int) (f : RS → α × RS) (R : List Int → RR α) : Prop := ∀ s : RS, s.1 ≤ B.length → (f s).2.1 ≤ B.length ∧ (s.2 ≠ 0 → (f s).2.2 = s.2) ∧ (s.2 = 0 → match R (B.drop s.1) with
  | .ok a r => (f s).1 = a ∧ (f s).2.2 = 0 ∧ B.drop (f s).2.1 = r
  | .bad e => (f s).2.2 = e ∧ e ≠ 0)
theorem Sim.bind {α β : Type} {B f} {R : List Int → RR α} {g : α → RS → β × RS} {S : α → List Int → RR β} (h : Sim B f R) (h2 : ∀ a, Sim B (g a) (S a)) : Sim B (fun s => g (f s).1 (f s).2) (fun xs => (R xs).bind S) := by
  intro s hs
  obtain ⟨a1, a2, a3⟩ := h s hs
  obtain ⟨b1, b2, b3⟩ := h2 (f s).1 (f s).2 a1
  refine ⟨b1, fun h0 => ?_, fun h0 => ?_⟩
  · have q := a2 h0
    show (g (f s).1 (f s).2).2.2 = _
    rw [b2 (by rw [q]; exact h0), q]
  · have q := a3 h0
    show match (R (B.drop s.1)).bind S with | .ok a r => _ | .bad e => _
    cases hr : R (B.drop s.1) with
    | ok a r =>
      rw [hr] at q
      obtain ⟨rfl, q2, rfl⟩ := q
      rw [RR.bind_okE]
      exact b3 q2
    | bad e =>
      rw [hr] at q
      rw [RR.bind_badE]
      obtain ⟨q1, q2⟩ := q
      exact ⟨by show (g (f s).1 (f s).2).2.2 = e; rw [b2 (by rw [q1]; exact q2), q1], q2⟩
theorem Sim.pure {α : Type} {B} (a : α) : Sim B (fun s => (a, s)) (fun xs => .ok a xs) := fun s hs => ⟨hs, fun _ => rfl, fun h => ⟨rfl, h, rfl⟩⟩
theorem Sim.congr {α : Type} {B f} {R S : List Int → RR α} (h : Sim B f S) (hB : Bytes B) (e : ∀ xs, Bytes xs → R xs = S xs) : Sim B f R := fun s hs => by
  obtain ⟨a1, a2, a3⟩ := h s hs
  refine ⟨a1, a2, fun h0 => ?_⟩
  rw [e _ (hB.drop _)]
  exact a3 h0
end Go.Proofs.YtdpflafjfkooeaaG
namespace Go.Proofs.YtdpflafjfkooeaaG
open Go Go.RowKit Go.Proofs Go.Proofs.YtdpflafjfkooeaaG.Dec
set_option linter.unusedSimpArgs false
set_option linter.unusedVariables false
structure LsI (B : List Int) (n : Nat) (s0 : RS) (z : Nat × List Ch × RS) : Prop where
  le : z.1 ≤ n
  at_ : z.2.2.1 ≤ B.length
  cnt : z.2.1.length = z.1
  eq : lsN B n s0 = (z.2.1 ++ (lsN B (n - z.1) z.2.2).1, (lsN B (n - z.1) z.2.2).2)
theorem LsI.next {B n s0 z} (h : LsI B n s0 z) (hB : Bytes B) (hlt : z.1 < n) (he : z.2.2.2 = 0) : LsI B n s0 (z.1 + 1, z.2.1 ++ [⟨(numS B z.2.2).1, (textS B (numS B z.2.2).2).1, (textS B (textS B (numS B z.2.2).2).2).1⟩], (textS B (textS B (numS B z.2.2).2).2).2) :=
  ⟨hlt, text_at hB (text_at hB (nu_bd hB h.at_).2.2), by simp [h.cnt], by
    rw [h.eq, show n - z.1 = (n - (z.1 + 1)) + 1 by omega, lsN, if_pos he]
    simp⟩
theorem LsI.done {B n s0 z} (h : LsI B n s0 z) (hd : ¬ z.1 < n ∨ ¬ z.2.2.2 = 0) : lsN B n s0 = (z.2.1, z.2.2) := by
  rw [h.eq]
  by_cases hl : z.1 < n
  · have he : ¬ z.2.2.2 = 0 := hd.resolve_left (fun q => q hl)
    rw [show n - z.1 = (n - (z.1 + 1)) + 1 by omega, lsN, if_neg he]
    simp
  · rw [show n - z.1 = 0 by omega, lsN]
    simp
end Go.Proofs.YtdpflafjfkooeaaG
namespace Go.Proofs.YtdpflafjfkooeaaG
open Go Go.RowKit Go.Proofs Go.Proofs.YtdpflafjfkooeaaG.Dec
set_option linter.unusedSimpArgs false
set_option linter.unusedVariables false
theorem txt_nil (n : Nat) : TxtOk n [] := ⟨by simp, fun x hx => by simp at hx⟩
theorem readOp_txt {n : Nat} {l : List Int} (g : BytN n l) {a : Opn} {rest : List Int} (h : readOp l = .ok a rest) : TxtOk n a.text := by
  unfold readOp at h
  repeat' split at h
  all_goals first
    | (cases h; exact dec_txt (g.drop 5))
    | (cases h; exact txt_nil _)
    | cases h
theorem readOpF_txt {n : Nat} {l : List Int} (g : BytN n l) : TxtOk n (readOpF l).1.text := by
  cases h : readOp l with
  | ok a rest =>
    rw [rF_ok h]
    split
    · exact txt_nil _
    · exact readOp_txt g h
  | bad e => rw [rF_bad h]; exact txt_nil _
theorem encF_byte {l : List Int} (h : scal l) : Bytes (encF l) := by
  have := encV_byte l
  rwa [show encV l = encF l from if_pos h] at this
theorem opF_byte (o : Opn) : Bytes (opF o).1 := by
  have nil : Bytes [] := fun x hx => by simp at hx
  have one : ∀ {x : Int} {l : List Int}, 0 ≤ x ∧ x ≤ 255 → Bytes l → Bytes (x :: l) := fun hx hl y hy => by
    rcases List.mem_cons.1 hy with rfl | h
    · exact hx
    · exact hl y h
  by_cases k1 : o.kind = 1
  · by_cases hn : isI o.at_ = false ∨ o.text = []
    · rw [opF_err1 k1 hn]; exact nil
    by_cases hs : scal o.text
    rotate_left
    · rw [opF_scal k1 hn hs]; exact nil
    by_cases hb : 5 + (encF o.text).length > 4096
    · rw [opF_big k1 hn hs hb]; exact nil
    rw [opF_ins k1 hn hs hb]
    exact one (by omega) ((numB_byte _).app (encF_byte hs))
  by_cases k2 : o.kind = 2
  · by_cases hn : isI o.at_ = false ∨ isI o.to_ = false
    · rw [opF_err2 k2 hn]; exact nil
    rw [opF_del k2 hn]
    exact one (by omega) ((numB_byte _).app (numB_byte _))
  by_cases k3 : o.kind = 3 ∨ o.kind = 4
  · rw [opF_un k3]; exact one (by omega) nil
  · rw [opF_no k1 k2 (by omega) (by omega)]; exact nil
theorem named_1 {o : Opn} (h : o.kind = 1) : o.named = ⟨o.kind, o.at_, 0, o.text⟩ := by unfold Opn.named; rw [if_pos (.inl h), if_neg (by omega), if_pos h]
theorem named_2 {o : Opn} (h : o.kind = 2) : o.named = ⟨o.kind, o.at_, o.to_, []⟩ := by unfold Opn.named; rw [if_pos (.inr h), if_pos h, if_neg (by omega)]
theorem named_3 {o : Opn} (h1 : ¬ o.kind = 1) (h2 : ¬ o.kind = 2) : o.named = ⟨o.kind, 0, 0, []⟩ := by unfold Opn.named; rw [if_neg (by omega), if_neg h2, if_neg h1]
theorem sameS (a : Opn) (h : a.text.length ≤ 2000000) : CallOk Try.prog 26 [a.x, a.x] (bo true) [] true := by
  have := sameOp_ok a a h h
  rwa [show sameO a a = true by simp [sameO]] at this
set_option maxRecDepth 10000 in
set_option maxHeartbeats 16000000 in
theorem codecBack_law (o : Opn) (b : List Int) (h : R32s o.text) (h2 : o.text.length ≤ 2000000) (hB : Bytes b) (hl : b.length ≤ 2000000) : CallOk Try.prog 6 [o.x, sl (bs b)] (bo true) [] true := by
  have w := works23_ok
  have c1 := wop_ok o h h2
  have c6 := readOp_ok b hB (by omega)
  have ht := readOpF_txt (n := 2000000) ⟨hB, hl⟩
  have c7 : (readOpF b).2 = 0 → CallOk Try.prog 22 [(readOpF b).1.x] (.tup [.one (.sr 0), .one (.v (.raw (.int .i64 0)))]) [(5, 1, bs b)] true := fun h0 => by
    have := wop_ok (readOpF b).1 ht.run ht.len
    rwa [readOpF_good hB h0] at this
  have c8 : ¬ (readOpF b).2 = 0 → CallOk Try.prog 26 [(readOpF b).1.x, zOp.x] (bo true) [] true := fun h0 => by
    rw [readOpF_bad h0]; exact sameS zOp (by simp [zOp])
  have hle := opF_le o
  have hby := opF_byte o
  by_cases he : (opF o).2 = 0
  · have q := opF_good he
    have c3 := readOp_ok (opF o).1 hby (by omega)
    rw [q] at c3
    rw [he] at c1
    generalize (readOpF b).1 = p at *
    generalize (readOpF b).2 = e at *
    generalize (opF o).1 = z at *
    by_cases k1 : o.kind = 1
    · rw [named_1 k1] at c3
      have c5 := sameS ⟨o.kind, o.at_, 0, o.text⟩ h2
      refine fn_ok' T_ok (orc_ok _) mixed Try.func6 rfl (by kernel_rfl) (lv [[1, 2], [1, 2, 15], [4], [1, 2, 24], [4], [1, 2, 5, 6, 1000005], [1, 2, 5, 31], [1, 2, 7, 8], [1, 2, 7, 8, 9], [1, 2, 7, 8, 9, 42], [1, 2, 7, 8, 9], [1, 2, 7, 8, 9, 51], [1, 7, 8, 9], [1, 65], [4], [1, 68], [4], [1, 10, 11], [1, 10, 75], [4], [1, 12, 13], [4]]) 93 rfl (by simp) rfl (by simp [X.all, PX.all, TV.rawR, SV.isRaw]) ?_
      simp only [argsG, Nat.zero_add, Nat.reduceAdd, Opn.x, opE, Opn.cs, zOp] at *
      repeat' first
        | ((first
            | ((with_reducible refine vR_cons (by decide) ?_); generalize hk : KtR _ _ _ _ _ _ _ _ _ _ = k)
            | ((first
            | with_reducible refine vOps_cons' ?_
            | ((with_reducible apply orc_b); (focus (exact w; done)); (all_goals (intro hb; (try simp only [decide_eq_true_eq, decide_eq_false_iff_not, Bool.not_eq_true', Bool.not_eq_false', Bool.and_eq_true, Decidable.not_not] at hb))))
            | ((with_reducible apply orc_i); (focus (exact c1; done)))
            | ((with_reducible apply orc_i); (focus (exact c3; done)))
            | ((with_reducible apply orc_i); (focus (exact c6; done)))
            | ((with_reducible apply orc_i); (focus (exact c5; done)))
            | ((with_reducible apply orc_i); (focus (exact c7 (by assumption); done)))
            | ((with_reducible apply orc_i); (focus (exact c8 (by assumption); done)))) <;> generalize hk : Kt _ _ _ _ _ _ _ _ _ = k)) <;> (simp only [Try.f6, lv, E1, E2, E5, ET, T, orc_mv, noO_mv, mvB, orc_bx, noO_bx, bxB, fwd, fwds, inv, mOk, Int.toNat_natCast, Nat.div_one, Nat.mul_one, Int.reduceToNat, SB, List.not_mem_nil, ↓reduceIte, ne_eq, reduceCtorEq, Nat.reduceLT, Nat.reduceEqDiff, Nat.reduceAdd, Nat.reduceMul, Nat.reduceLeDiff, Nat.reduceDiv, Nat.reduceMod, Nat.reduceSub, Nat.reduceBEq, List.length_map, bs_len, rn_len, Opn.x]; (try simp (disch := omega) only [wrap_in, Int.toNat_natCast, tv_rn, tv_bst]); subst hk))
        | with_reducible first | refine Kt_p ?_ | refine Kt_i (by kernel_rfl) ?_ | refine Kr_f (by kernel_rfl) ?_
        | (with_reducible refine Kr_t ?_; simp only [List.length_append, List.length_cons, List.length_nil, Nat.reduceAdd, Nat.reduceSub, List.drop_succ_cons, List.drop_zero])
        | with_reducible first | refine vR_nil ?_ | refine KtR_i (by kernel_rfl) ?_ | refine KrR_i (by kernel_rfl) ?_ | refine vR_skip (by decide) ?_
        | ((with_reducible refine vB_i ?_ ?_) <;> intro _ <;> (first | (exfalso; omega) | (exact absurd trivial ‹¬True›) | (try dsimp only [])))
        | ((with_reducible refine vOps_nil' ?_); refine Kr_i (by kernel_rfl) ?_; generalize hk : plain _ _ = G; simp only [lv, E3, E2, E5, rawX, deadX, SB, List.not_mem_nil, ↓reduceIte, ne_eq, reduceCtorEq, Nat.reduceLT, Nat.reduceEqDiff, Nat.reduceAdd, Nat.reduceMul, Nat.reduceLeDiff, Nat.reduceDiv, Nat.reduceMod, Nat.reduceSub, Nat.reduceBEq, List.length_map, bs_len, rn_len, Opn.x] at hk; subst hk)
        | with_reducible refine vSeq_i ?_
        | with_reducible first | refine vRegion_i (by kernel_rfl) ?_ | refine Kv_i ?_
        | ((with_reducible apply vStrK_i); (focus (rfl; done)))
        | ((with_reducible refine imp_i ?_); intro _)
        | with_reducible first | refine Ks_n ?_ | refine Ks_r ?_ | refine Ks_e ?_ | refine Kl_e ?_ | refine Kx_n ?_ | refine Kl_r ?_ | refine vRet_i ?_ | refine vSkip_i ?_ | refine vExit_i ?_ | refine vBlock_i ?_ | refine Ks_p ?_ | refine Kl_p ?_ | refine blk_p ?_ | exact Kb_p | refine vGoto_i ?_ | refine vLabel_i ?_ | refine Ks_g ?_ | refine Kl_g ?_ | refine blk_g ?_ | refine jmp_g ?_ | refine jmp_n ?_ | refine jmp_r ?_ | refine nog_n ?_ | refine nog_r ?_ | refine blk_n ?_ | refine blk_r ?_ | refine blk_e ?_ | refine blk_o (by decide) ?_ | refine cp_t ?_ | refine cp_f ?_
        | ((with_reducible apply vCond_x); (focus (simp only [lv, E1, E2, E5, ET, T, orc_mv, noO_mv, mvB, orc_bx, noO_bx, bxB, fwd, fwds, inv, mOk, Int.toNat_natCast, Nat.div_one, Nat.mul_one, Int.reduceToNat, SB, List.not_mem_nil, ↓reduceIte, ne_eq, reduceCtorEq, Nat.reduceLT, Nat.reduceEqDiff, Nat.reduceAdd, Nat.reduceMul, Nat.reduceLeDiff, Nat.reduceDiv, Nat.reduceMod, Nat.reduceSub, Nat.reduceBEq, List.length_map, bs_len, rn_len, Opn.x]; with_reducible first | exact Eq.refl (bo true) | exact Eq.refl (bo false))))
        | ((with_reducible refine And.intro ?_ ?_); (focus (try omega)))
      all_goals first | (exfalso; omega) | (exfalso; exact absurd hb (by decide)) | (refine Kf_r ?_; simp only [Try.f6, E4, E3, E2, E5, rawX, deadX, ET, T, SB, List.not_mem_nil, ↓reduceIte, ne_eq, reduceCtorEq, Nat.reduceLT, Nat.reduceEqDiff, Nat.reduceAdd, Nat.reduceMul, Nat.reduceLeDiff, Nat.reduceDiv, Nat.reduceMod, Nat.reduceSub, Nat.reduceBEq, List.length_map, bs_len, rn_len, Opn.x]; done) | skip
      all_goals trace_state
    by_cases k2 : o.kind = 2
    · rw [named_2 k2] at c3
      have c5 := sameS ⟨o.kind, o.at_, o.to_, []⟩ (by simp)
      refine fn_ok' T_ok (orc_ok _) mixed Try.func6 rfl (by kernel_rfl) (lv [[1, 2], [1, 2, 15], [4], [1, 2, 24], [4], [1, 2, 5, 6, 1000005], [1, 2, 5, 31], [1, 2, 7, 8], [1, 2, 7, 8, 9], [1, 2, 7, 8, 9, 42], [1, 2, 7, 8, 9], [1, 2, 7, 8, 9, 51], [1, 7, 8, 9], [1, 65], [4], [1, 68], [4], [1, 10, 11], [1, 10, 75], [4], [1, 12, 13], [4]]) 93 rfl (by simp) rfl (by simp [X.all, PX.all, TV.rawR, SV.isRaw]) ?_
      simp only [argsG, Nat.zero_add, Nat.reduceAdd, Opn.x, opE, Opn.cs, zOp] at *
      repeat' first
        | ((first
            | ((with_reducible refine vR_cons (by decide) ?_); generalize hk : KtR _ _ _ _ _ _ _ _ _ _ = k)
            | ((first
            | with_reducible refine vOps_cons' ?_
            | ((with_reducible apply orc_b); (focus (exact w; done)); (all_goals (intro hb; (try simp only [decide_eq_true_eq, decide_eq_false_iff_not, Bool.not_eq_true', Bool.not_eq_false', Bool.and_eq_true, Decidable.not_not] at hb))))
            | ((with_reducible apply orc_i); (focus (exact c1; done)))
            | ((with_reducible apply orc_i); (focus (exact c3; done)))
            | ((with_reducible apply orc_i); (focus (exact c6; done)))
            | ((with_reducible apply orc_i); (focus (exact c5; done)))
            | ((with_reducible apply orc_i); (focus (exact c7 (by assumption); done)))
            | ((with_reducible apply orc_i); (focus (exact c8 (by assumption); done)))) <;> generalize hk : Kt _ _ _ _ _ _ _ _ _ = k)) <;> (simp only [Try.f6, lv, E1, E2, E5, ET, T, orc_mv, noO_mv, mvB, orc_bx, noO_bx, bxB, fwd, fwds, inv, mOk, Int.toNat_natCast, Nat.div_one, Nat.mul_one, Int.reduceToNat, SB, List.not_mem_nil, ↓reduceIte, ne_eq, reduceCtorEq, Nat.reduceLT, Nat.reduceEqDiff, Nat.reduceAdd, Nat.reduceMul, Nat.reduceLeDiff, Nat.reduceDiv, Nat.reduceMod, Nat.reduceSub, Nat.reduceBEq, List.length_map, bs_len, rn_len, Opn.x]; (try simp (disch := omega) only [wrap_in, Int.toNat_natCast, tv_rn, tv_bst]); subst hk))
        | with_reducible first | refine Kt_p ?_ | refine Kt_i (by kernel_rfl) ?_ | refine Kr_f (by kernel_rfl) ?_
        | (with_reducible refine Kr_t ?_; simp only [List.length_append, List.length_cons, List.length_nil, Nat.reduceAdd, Nat.reduceSub, List.drop_succ_cons, List.drop_zero])
        | with_reducible first | refine vR_nil ?_ | refine KtR_i (by kernel_rfl) ?_ | refine KrR_i (by kernel_rfl) ?_ | refine vR_skip (by decide) ?_
        | ((with_reducible refine vB_i ?_ ?_) <;> intro _ <;> (first | (exfalso; omega) | (exact absurd trivial ‹¬True›) | (try dsimp only [])))
        | ((with_reducible refine vOps_nil' ?_); refine Kr_i (by kernel_rfl) ?_; generalize hk : plain _ _ = G; simp only [lv, E3, E2, E5, rawX, deadX, SB, List.not_mem_nil, ↓reduceIte, ne_eq, reduceCtorEq, Nat.reduceLT, Nat.reduceEqDiff, Nat.reduceAdd, Nat.reduceMul, Nat.reduceLeDiff, Nat.reduceDiv, Nat.reduceMod, Nat.reduceSub, Nat.reduceBEq, List.length_map, bs_len, rn_len, Opn.x] at hk; subst hk)
        | with_reducible refine vSeq_i ?_
        | with_reducible first | refine vRegion_i (by kernel_rfl) ?_ | refine Kv_i ?_
        | ((with_reducible apply vStrK_i); (focus (rfl; done)))
        | ((with_reducible refine imp_i ?_); intro _)
        | with_reducible first | refine Ks_n ?_ | refine Ks_r ?_ | refine Ks_e ?_ | refine Kl_e ?_ | refine Kx_n ?_ | refine Kl_r ?_ | refine vRet_i ?_ | refine vSkip_i ?_ | refine vExit_i ?_ | refine vBlock_i ?_ | refine Ks_p ?_ | refine Kl_p ?_ | refine blk_p ?_ | exact Kb_p | refine vGoto_i ?_ | refine vLabel_i ?_ | refine Ks_g ?_ | refine Kl_g ?_ | refine blk_g ?_ | refine jmp_g ?_ | refine jmp_n ?_ | refine jmp_r ?_ | refine nog_n ?_ | refine nog_r ?_ | refine blk_n ?_ | refine blk_r ?_ | refine blk_e ?_ | refine blk_o (by decide) ?_ | refine cp_t ?_ | refine cp_f ?_
        | ((with_reducible apply vCond_x); (focus (simp only [lv, E1, E2, E5, ET, T, orc_mv, noO_mv, mvB, orc_bx, noO_bx, bxB, fwd, fwds, inv, mOk, Int.toNat_natCast, Nat.div_one, Nat.mul_one, Int.reduceToNat, SB, List.not_mem_nil, ↓reduceIte, ne_eq, reduceCtorEq, Nat.reduceLT, Nat.reduceEqDiff, Nat.reduceAdd, Nat.reduceMul, Nat.reduceLeDiff, Nat.reduceDiv, Nat.reduceMod, Nat.reduceSub, Nat.reduceBEq, List.length_map, bs_len, rn_len, Opn.x]; with_reducible first | exact Eq.refl (bo true) | exact Eq.refl (bo false))))
        | ((with_reducible refine And.intro ?_ ?_); (focus (try omega)))
      all_goals first | (exfalso; omega) | (exfalso; exact absurd hb (by decide)) | (refine Kf_r ?_; simp only [Try.f6, E4, E3, E2, E5, rawX, deadX, ET, T, SB, List.not_mem_nil, ↓reduceIte, ne_eq, reduceCtorEq, Nat.reduceLT, Nat.reduceEqDiff, Nat.reduceAdd, Nat.reduceMul, Nat.reduceLeDiff, Nat.reduceDiv, Nat.reduceMod, Nat.reduceSub, Nat.reduceBEq, List.length_map, bs_len, rn_len, Opn.x]; done) | skip
      all_goals trace_state
    · rw [named_3 k1 k2] at c3
      have c5 := sameS ⟨o.kind, 0, 0, []⟩ (by simp)
      refine fn_ok' T_ok (orc_ok _) mixed Try.func6 rfl (by kernel_rfl) (lv [[1, 2], [1, 2, 15], [4], [1, 2, 24], [4], [1, 2, 5, 6, 1000005], [1, 2, 5, 31], [1, 2, 7, 8], [1, 2, 7, 8, 9], [1, 2, 7, 8, 9, 42], [1, 2, 7, 8, 9], [1, 2, 7, 8, 9, 51], [1, 7, 8, 9], [1, 65], [4], [1, 68], [4], [1, 10, 11], [1, 10, 75], [4], [1, 12, 13], [4]]) 93 rfl (by simp) rfl (by simp [X.all, PX.all, TV.rawR, SV.isRaw]) ?_
      simp only [argsG, Nat.zero_add, Nat.reduceAdd, Opn.x, opE, Opn.cs, zOp] at *
      repeat' first
        | ((first
            | ((with_reducible refine vR_cons (by decide) ?_); generalize hk : KtR _ _ _ _ _ _ _ _ _ _ = k)
            | ((first
            | with_reducible refine vOps_cons' ?_
            | ((with_reducible apply orc_b); (focus (exact w; done)); (all_goals (intro hb; (try simp only [decide_eq_true_eq, decide_eq_false_iff_not, Bool.not_eq_true', Bool.not_eq_false', Bool.and_eq_true, Decidable.not_not] at hb))))
            | ((with_reducible apply orc_i); (focus (exact c1; done)))
            | ((with_reducible apply orc_i); (focus (exact c3; done)))
            | ((with_reducible apply orc_i); (focus (exact c6; done)))
            | ((with_reducible apply orc_i); (focus (exact c5; done)))
            | ((with_reducible apply orc_i); (focus (exact c7 (by assumption); done)))
            | ((with_reducible apply orc_i); (focus (exact c8 (by assumption); done)))) <;> generalize hk : Kt _ _ _ _ _ _ _ _ _ = k)) <;> (simp only [Try.f6, lv, E1, E2, E5, ET, T, orc_mv, noO_mv, mvB, orc_bx, noO_bx, bxB, fwd, fwds, inv, mOk, Int.toNat_natCast, Nat.div_one, Nat.mul_one, Int.reduceToNat, SB, List.not_mem_nil, ↓reduceIte, ne_eq, reduceCtorEq, Nat.reduceLT, Nat.reduceEqDiff, Nat.reduceAdd, Nat.reduceMul, Nat.reduceLeDiff, Nat.reduceDiv, Nat.reduceMod, Nat.reduceSub, Nat.reduceBEq, List.length_map, bs_len, rn_len, Opn.x]; (try simp (disch := omega) only [wrap_in, Int.toNat_natCast, tv_rn, tv_bst]); subst hk))
        | with_reducible first | refine Kt_p ?_ | refine Kt_i (by kernel_rfl) ?_ | refine Kr_f (by kernel_rfl) ?_
        | (with_reducible refine Kr_t ?_; simp only [List.length_append, List.length_cons, List.length_nil, Nat.reduceAdd, Nat.reduceSub, List.drop_succ_cons, List.drop_zero])
        | with_reducible first | refine vR_nil ?_ | refine KtR_i (by kernel_rfl) ?_ | refine KrR_i (by kernel_rfl) ?_ | refine vR_skip (by decide) ?_
        | ((with_reducible refine vB_i ?_ ?_) <;> intro _ <;> (first | (exfalso; omega) | (exact absurd trivial ‹¬True›) | (try dsimp only [])))
        | ((with_reducible refine vOps_nil' ?_); refine Kr_i (by kernel_rfl) ?_; generalize hk : plain _ _ = G; simp only [lv, E3, E2, E5, rawX, deadX, SB, List.not_mem_nil, ↓reduceIte, ne_eq, reduceCtorEq, Nat.reduceLT, Nat.reduceEqDiff, Nat.reduceAdd, Nat.reduceMul, Nat.reduceLeDiff, Nat.reduceDiv, Nat.reduceMod, Nat.reduceSub, Nat.reduceBEq, List.length_map, bs_len, rn_len, Opn.x] at hk; subst hk)
        | with_reducible refine vSeq_i ?_
        | with_reducible first | refine vRegion_i (by kernel_rfl) ?_ | refine Kv_i ?_
        | ((with_reducible apply vStrK_i); (focus (rfl; done)))
        | ((with_reducible refine imp_i ?_); intro _)
        | with_reducible first | refine Ks_n ?_ | refine Ks_r ?_ | refine Ks_e ?_ | refine Kl_e ?_ | refine Kx_n ?_ | refine Kl_r ?_ | refine vRet_i ?_ | refine vSkip_i ?_ | refine vExit_i ?_ | refine vBlock_i ?_ | refine Ks_p ?_ | refine Kl_p ?_ | refine blk_p ?_ | exact Kb_p | refine vGoto_i ?_ | refine vLabel_i ?_ | refine Ks_g ?_ | refine Kl_g ?_ | refine blk_g ?_ | refine jmp_g ?_ | refine jmp_n ?_ | refine jmp_r ?_ | refine nog_n ?_ | refine nog_r ?_ | refine blk_n ?_ | refine blk_r ?_ | refine blk_e ?_ | refine blk_o (by decide) ?_ | refine cp_t ?_ | refine cp_f ?_
        | ((with_reducible apply vCond_x); (focus (simp only [lv, E1, E2, E5, ET, T, orc_mv, noO_mv, mvB, orc_bx, noO_bx, bxB, fwd, fwds, inv, mOk, Int.toNat_natCast, Nat.div_one, Nat.mul_one, Int.reduceToNat, SB, List.not_mem_nil, ↓reduceIte, ne_eq, reduceCtorEq, Nat.reduceLT, Nat.reduceEqDiff, Nat.reduceAdd, Nat.reduceMul, Nat.reduceLeDiff, Nat.reduceDiv, Nat.reduceMod, Nat.reduceSub, Nat.reduceBEq, List.length_map, bs_len, rn_len, Opn.x]; with_reducible first | exact Eq.refl (bo true) | exact Eq.refl (bo false))))
        | ((with_reducible refine And.intro ?_ ?_); (focus (try omega)))
      all_goals first | (exfalso; omega) | (exfalso; exact absurd hb (by decide)) | (refine Kf_r ?_; simp only [Try.f6, E4, E3, E2, E5, rawX, deadX, ET, T, SB, List.not_mem_nil, ↓reduceIte, ne_eq, reduceCtorEq, Nat.reduceLT, Nat.reduceEqDiff, Nat.reduceAdd, Nat.reduceMul, Nat.reduceLeDiff, Nat.reduceDiv, Nat.reduceMod, Nat.reduceSub, Nat.reduceBEq, List.length_map, bs_len, rn_len, Opn.x]; done) | skip
      all_goals trace_state
  · rw [opF_bad he] at c1
    generalize (readOpF b).1 = p at *
    generalize (readOpF b).2 = e at *
    generalize (opF o).2 = d at *
    refine fn_ok' T_ok (orc_ok _) mixed Try.func6 rfl (by kernel_rfl) (lv [[1, 2], [1, 2, 15], [4], [1, 2, 24], [4], [1, 2, 5, 6, 1000005], [1, 2, 5, 31], [1, 2, 7, 8], [1, 2, 7, 8, 9], [1, 2, 7, 8, 9, 42], [1, 2, 7, 8, 9], [1, 2, 7, 8, 9, 51], [1, 7, 8, 9], [1, 65], [4], [1, 68], [4], [1, 10, 11], [1, 10, 75], [4], [1, 12, 13], [4]]) 93 rfl (by simp) rfl (by simp [X.all, PX.all, TV.rawR, SV.isRaw]) ?_
    simp only [argsG, Nat.zero_add, Nat.reduceAdd, Opn.x, opE, Opn.cs, zOp] at *
    repeat' first
      | ((first
          | ((with_reducible refine vR_cons (by decide) ?_); generalize hk : KtR _ _ _ _ _ _ _ _ _ _ = k)
          | ((first
          | with_reducible refine vOps_cons' ?_
          | ((with_reducible apply orc_b); (focus (exact w; done)); (all_goals (intro hb; (try simp only [decide_eq_true_eq, decide_eq_false_iff_not, Bool.not_eq_true', Bool.not_eq_false', Bool.and_eq_true, Decidable.not_not] at hb))))
          | ((with_reducible apply orc_i); (focus (exact c1; done)))
          | ((with_reducible apply orc_i); (focus (exact c6; done)))
          | ((with_reducible apply orc_i); (focus (exact c7 (by assumption); done)))
          | ((with_reducible apply orc_i); (focus (exact c8 (by assumption); done)))) <;> generalize hk : Kt _ _ _ _ _ _ _ _ _ = k)) <;> (simp only [Try.f6, lv, E1, E2, E5, ET, T, orc_mv, noO_mv, mvB, orc_bx, noO_bx, bxB, fwd, fwds, inv, mOk, Int.toNat_natCast, Nat.div_one, Nat.mul_one, Int.reduceToNat, SB, List.not_mem_nil, ↓reduceIte, ne_eq, reduceCtorEq, Nat.reduceLT, Nat.reduceEqDiff, Nat.reduceAdd, Nat.reduceMul, Nat.reduceLeDiff, Nat.reduceDiv, Nat.reduceMod, Nat.reduceSub, Nat.reduceBEq, List.length_map, bs_len, rn_len, Opn.x]; (try simp (disch := omega) only [wrap_in, Int.toNat_natCast, tv_rn, tv_bst]); subst hk))
      | with_reducible first | refine Kt_p ?_ | refine Kt_i (by kernel_rfl) ?_ | refine Kr_f (by kernel_rfl) ?_
      | (with_reducible refine Kr_t ?_; simp only [List.length_append, List.length_cons, List.length_nil, Nat.reduceAdd, Nat.reduceSub, List.drop_succ_cons, List.drop_zero])
      | with_reducible first | refine vR_nil ?_ | refine KtR_i (by kernel_rfl) ?_ | refine KrR_i (by kernel_rfl) ?_ | refine vR_skip (by decide) ?_
      | ((with_reducible refine vB_i ?_ ?_) <;> intro _ <;> (first | (exfalso; omega) | (exact absurd trivial ‹¬True›) | (try dsimp only [])))
      | ((with_reducible refine vOps_nil' ?_); refine Kr_i (by kernel_rfl) ?_; generalize hk : plain _ _ = G; simp only [lv, E3, E2, E5, rawX, deadX, SB, List.not_mem_nil, ↓reduceIte, ne_eq, reduceCtorEq, Nat.reduceLT, Nat.reduceEqDiff, Nat.reduceAdd, Nat.reduceMul, Nat.reduceLeDiff, Nat.reduceDiv, Nat.reduceMod, Nat.reduceSub, Nat.reduceBEq, List.length_map, bs_len, rn_len, Opn.x] at hk; subst hk)
      | with_reducible refine vSeq_i ?_
      | with_reducible first | refine vRegion_i (by kernel_rfl) ?_ | refine Kv_i ?_
      | ((with_reducible apply vStrK_i); (focus (rfl; done)))
      | ((with_reducible refine imp_i ?_); intro _)
      | with_reducible first | refine Ks_n ?_ | refine Ks_r ?_ | refine Ks_e ?_ | refine Kl_e ?_ | refine Kx_n ?_ | refine Kl_r ?_ | refine vRet_i ?_ | refine vSkip_i ?_ | refine vExit_i ?_ | refine vBlock_i ?_ | refine Ks_p ?_ | refine Kl_p ?_ | refine blk_p ?_ | exact Kb_p | refine vGoto_i ?_ | refine vLabel_i ?_ | refine Ks_g ?_ | refine Kl_g ?_ | refine blk_g ?_ | refine jmp_g ?_ | refine jmp_n ?_ | refine jmp_r ?_ | refine nog_n ?_ | refine nog_r ?_ | refine blk_n ?_ | refine blk_r ?_ | refine blk_e ?_ | refine blk_o (by decide) ?_ | refine cp_t ?_ | refine cp_f ?_
      | ((with_reducible apply vCond_x); (focus (simp only [lv, E1, E2, E5, ET, T, orc_mv, noO_mv, mvB, orc_bx, noO_bx, bxB, fwd, fwds, inv, mOk, Int.toNat_natCast, Nat.div_one, Nat.mul_one, Int.reduceToNat, SB, List.not_mem_nil, ↓reduceIte, ne_eq, reduceCtorEq, Nat.reduceLT, Nat.reduceEqDiff, Nat.reduceAdd, Nat.reduceMul, Nat.reduceLeDiff, Nat.reduceDiv, Nat.reduceMod, Nat.reduceSub, Nat.reduceBEq, List.length_map, bs_len, rn_len, Opn.x]; with_reducible first | exact Eq.refl (bo true) | exact Eq.refl (bo false))))
      | ((with_reducible refine And.intro ?_ ?_); (focus (try omega)))
    all_goals first | (exfalso; omega) | (exfalso; exact absurd hb (by decide)) | (refine Kf_r ?_; simp only [Try.f6, E4, E3, E2, E5, rawX, deadX, ET, T, SB, List.not_mem_nil, ↓reduceIte, ne_eq, reduceCtorEq, Nat.reduceLT, Nat.reduceEqDiff, Nat.reduceAdd, Nat.reduceMul, Nat.reduceLeDiff, Nat.reduceDiv, Nat.reduceMod, Nat.reduceSub, Nat.reduceBEq, List.length_map, bs_len, rn_len, Opn.x]; done) | skip
    all_goals trace_state
end Go.Proofs.YtdpflafjfkooeaaG
/- L23Back: CodecBack at what came in. -/
namespace Go.Proofs.YtdpflafjfkooeaaG
open Go Go.RowKit Go.Proofs Go.Proofs.Ytdpflafjfkooeaa Go.Proofs.YtdpflafjfkooeaaG.Dec
theorem codecBack_in {W : World} {v0 v1 : Value} {xs0 : List SV} {x1 : SV} (t0 : Typ T 1048576 27 xs0) (a0 : XR W (gI W) v0 (.p (.agg (xs0.map .v)))) (t1 : Typ T 1048576 41 [x1]) (a1 : XR W (gI W) v1 (.p (.one (.v x1)))) :
    Calls Try.prog 6 #[v0, v1] W fun e W' => e = .returned (.bool true) ∧ Below W.heap.size W W' := by
  obtain ⟨o, rfl, h1⟩ := typ_op t0
  obtain ⟨b, rfl, hB, hb⟩ := typ_bytes t1
  exact law_calls (codecBack_law o b h1.run (Nat.le_trans h1.len (by omega)) hB (by omega)) (.cons a0 (.cons a1 .nil))
end Go.Proofs.YtdpflafjfkooeaaG
