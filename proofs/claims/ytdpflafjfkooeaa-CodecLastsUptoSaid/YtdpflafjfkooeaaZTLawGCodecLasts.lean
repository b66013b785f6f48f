/- YtdpflafjfkooeaaZTLawGCodecLasts: a part of the proof, joined of its texts. -/
import Derived.Test.YtdpflafjfkooeaaZ24
/- L23: layer 23's laws at what came in: texts of numbers, operations, states, bytes. -/
namespace Go.Proofs.YtdpflafjfkooeaaG
open Go Go.RowKit Go.Proofs Go.Proofs.Ytdpflafjfkooeaa Go.Proofs.YtdpflafjfkooeaaG.Dec
set_option linter.unusedVariables false
set_option linter.unusedSimpArgs false
theorem u8b {m : Int} (h : IntKind.u8.min ≤ m ∧ m ≤ IntKind.u8.max) : 0 ≤ m ∧ m ≤ 255 := by
  have h1 : IntKind.u8.min = 0 := by decide
  have h2 : IntKind.u8.max = 255 := by decide
  rw [h1, h2] at h; exact h
theorem typ_bytes {n : Nat} {x : SV} (h : Typ T n 41 [x]) : ∃ l : List Int, x = .sl 1 (bs l) ∧ Bytes l ∧ l.length ≤ n := by
  obtain ⟨l, e, h1, h2⟩ := h.ints (by rfl) (by rfl)
  simp only [List.cons.injEq, and_true] at e
  exact ⟨l, e, fun m hm => u8b (h1 m hm), h2⟩
theorem typ_ops23 {n : Nat} {x : SV} (h : Typ T n 59 [x]) : ∃ l : List Opn, x = .sl 4 (ops l) ∧ l.length ≤ n ∧ ∀ o ∈ l, o.upto n := by
  obtain ⟨xss, e, hl, hx⟩ := h.sl' (by rfl) (by rfl)
  obtain ⟨l, rfl, hp⟩ := choose_l (p := fun c => Opn.upto n c) (f := Opn.cells) fun ys hys => typ_op (hx ys hys)
  rw [flat_map] at e
  simp only [List.cons.injEq, and_true] at e
  exact ⟨l, e, by simpa using hl, hp⟩
theorem typ_int23 {n : Nat} {x : SV} (h : Typ T n 3 [x]) : ∃ m : Int, x = .raw (.int .i64 m) := by
  obtain ⟨m, e, _⟩ := h.int' (by rfl)
  simp only [List.cons.injEq, and_true] at e
  exact ⟨m, e⟩
end Go.Proofs.YtdpflafjfkooeaaG
/- R3: the document's reader, in plain Lean, comes to what the readings come to. -/
namespace Go.Proofs.YtdpflafjfkooeaaG
open Go Go.RowKit Go.Proofs Go.Proofs.YtdpflafjfkooeaaG.Dec
set_option linter.unusedSimpArgs false
set_option linter.unusedVariables false
abbrev RS := Nat × Int
def tkS (B : List Int) (s : RS) (n : Int) : List Int × RS := if s.2 = 0 then (if n ≤ (B.length : Int) - s.1 then ((B.drop s.1).take n.toNat, (s.1 + n.toNat, 0)) else ([], (s.1, 20))) else ([], s)
theorem tk_ok {B s n} (h : s.2 = 0) (h1 : n ≤ (B.length : Int) - s.1) : tkS B s n = ((B.drop s.1).take n.toNat, (s.1 + n.toNat, 0)) := by unfold tkS; rw [if_pos h, if_pos h1]
theorem tk_short {B s n} (h : s.2 = 0) (h1 : ¬ n ≤ (B.length : Int) - s.1) : tkS B s n = ([], (s.1, 20)) := by unfold tkS; rw [if_pos h, if_neg h1]
theorem tk_err {B s n} (h : ¬ s.2 = 0) : tkS B s n = ([], s) := if_neg h
def numS (B : List Int) (s : RS) : Int × RS := if (tkS B s 4).2.2 = 0 then (numR (tkS B s 4).1, ((tkS B s 4).2.1, if numR (tkS B s 4).1 > 2147483647 then 50 else 0)) else (0, (tkS B s 4).2)
theorem nu_ok {B s} (h : s.2 = 0) (h1 : 4 ≤ (B.length : Int) - s.1) (h2 : ¬ numR (B.drop s.1) > 2147483647) : numS B s = (numR (B.drop s.1), (s.1 + 4, 0)) := by
  unfold numS; rw [tk_ok h h1]
  simp only [show (4 : Int).toNat = 4 from rfl, numR_take, if_true]
  rw [if_neg h2]
theorem nu_big {B s} (h : s.2 = 0) (h1 : 4 ≤ (B.length : Int) - s.1) (h2 : numR (B.drop s.1) > 2147483647) : numS B s = (numR (B.drop s.1), (s.1 + 4, 50)) := by
  unfold numS; rw [tk_ok h h1]
  simp only [show (4 : Int).toNat = 4 from rfl, numR_take, if_true]
  rw [if_pos h2]
theorem nu_short {B s} (h : s.2 = 0) (h1 : ¬ 4 ≤ (B.length : Int) - s.1) : numS B s = (0, (s.1, 20)) := by
  unfold numS; rw [tk_short h h1]
  rfl
theorem nu_err {B s} (h : ¬ s.2 = 0) : numS B s = (0, s) := by
  unfold numS; rw [tk_err h]
  exact if_neg h
/-- So many bytes as a text. -/
def txS (B : List Int) (n : Int) (s : RS) : List Int × RS := ((dec (tkS B s n).1).1, ((tkS B s n).2.1, if (tkS B s n).2.2 = 0 then (dec (tkS B s n).1).2.2 else (tkS B s n).2.2))
def textS (B : List Int) (s : RS) : List Int × RS := txS B (numS B s).1 (numS B s).2
def lsN (B : List Int) : Nat → RS → List Ch × RS
  | 0, s => ([], s)
  | k + 1, s => if s.2 = 0 then (⟨(numS B s).1, (textS B (numS B s).2).1, (textS B (textS B (numS B s).2).2).1⟩ :: (lsN B k (textS B (textS B (numS B s).2).2).2).1, (lsN B k (textS B (textS B (numS B s).2).2).2).2) else ([], s)
theorem tk_at {B s n} (h : s.1 ≤ B.length) : (tkS B s n).2.1 ≤ B.length := by
  by_cases h0 : s.2 = 0
  · by_cases h1 : n ≤ (B.length : Int) - s.1
    · rw [tk_ok h0 h1]; show s.1 + n.toNat ≤ _; omega
    · rw [tk_short h0 h1]; exact h
  · rw [tk_err h0]; exact h
theorem numR_le {xs : List Int} (h : Bytes xs) : numR xs ≤ 4294967295 := by
  have b0 := rd_bd h 0; have b1 := rd_bd h 1; have b2 := rd_bd h 2; have b3 := rd_bd h 3
  unfold numR
  omega
theorem nu_bd {B s} (hB : Bytes B) (h : s.1 ≤ B.length) : 0 ≤ (numS B s).1 ∧ (numS B s).1 ≤ 4294967295 ∧ (numS B s).2.1 ≤ B.length := by
  have n0 := numR_nn (hB.drop s.1)
  have n1 := numR_le (hB.drop s.1)
  by_cases h0 : s.2 = 0
  · by_cases h1 : 4 ≤ (B.length : Int) - s.1
    · by_cases h2 : numR (B.drop s.1) > 2147483647
      · rw [nu_big h0 h1 h2]; exact ⟨n0, n1, by show s.1 + 4 ≤ _; omega⟩
      · rw [nu_ok h0 h1 h2]; exact ⟨n0, n1, by show s.1 + 4 ≤ _; omega⟩
    · rw [nu_short h0 h1]; exact ⟨by omega, by show (0 : Int) ≤ _; omega, h⟩
  · rw [nu_err h0]; exact ⟨by omega, by show (0 : Int) ≤ _; omega, h⟩
theorem text_at {B s} (hB : Bytes B) (h : s.1 ≤ B.length) : (textS B s).2.1 ≤ B.length := tk_at (nu_bd hB h).2.2
/-- A reader's step is a reading. -/
def Sim {α : Type} (B : List Int) (f : RS → α × RS) (R : List Int → RR α) : Prop := ∀ s : RS, s.1 ≤ B.length → (f s).2.1 ≤ B.length ∧ (s.2 ≠ 0 → (f s).2.2 = s.2) ∧ (s.2 = 0 → match R (B.drop s.1) with
  | .ok a r => (f s).1 = a ∧ (f s).2.2 = 0 ∧ B.drop (f s).2.1 = r
  | .bad e => (f s).2.2 = e ∧ e ≠ 0)
theorem Sim.bind {α β : Type} {B f} {R : List Int → RR α} {g : α → RS → β × RS} {S : α → List Int → RR β} (h : Sim B f R) (h2 : ∀ a, Sim B (g a) (S a)) : Sim B (fun s => g (f s).1 (f s).2) (fun xs => (R xs).bind S) := by
  intro s hs
  obtain ⟨a1, a2, a3⟩ := h s hs
  obtain ⟨b1, b2, b3⟩ := h2 (f s).1 (f s).2 a1
  refine ⟨b1, fun h0 => ?_, fun h0 => ?_⟩
  · have q := a2 h0
    show (g (f s).1 (f s).2).2.2 = _
    rw [b2 (by rw [q]; exact h0), q]
  · have q := a3 h0
    show match (R (B.drop s.1)).bind S with | .ok a r => _ | .bad e => _
    cases hr : R (B.drop s.1) with
    | ok a r =>
      rw [hr] at q
      obtain ⟨rfl, q2, rfl⟩ := q
      rw [RR.bind_okE]
      exact b3 q2
    | bad e =>
      rw [hr] at q
      rw [RR.bind_badE]
      obtain ⟨q1, q2⟩ := q
      exact ⟨by show (g (f s).1 (f s).2).2.2 = e; rw [b2 (by rw [q1]; exact q2), q1], q2⟩
theorem Sim.pure {α : Type} {B} (a : α) : Sim B (fun s => (a, s)) (fun xs => .ok a xs) := fun s hs => ⟨hs, fun _ => rfl, fun h => ⟨rfl, h, rfl⟩⟩
theorem Sim.congr {α : Type} {B f} {R S : List Int → RR α} (h : Sim B f S) (hB : Bytes B) (e : ∀ xs, Bytes xs → R xs = S xs) : Sim B f R := fun s hs => by
  obtain ⟨a1, a2, a3⟩ := h s hs
  refine ⟨a1, a2, fun h0 => ?_⟩
  rw [e _ (hB.drop _)]
  exact a3 h0
end Go.Proofs.YtdpflafjfkooeaaG
namespace Go.Proofs.YtdpflafjfkooeaaG
open Go Go.RowKit Go.Proofs Go.Proofs.YtdpflafjfkooeaaG.Dec
set_option linter.unusedSimpArgs false
set_option linter.unusedVariables false
structure LsI (B : List Int) (n : Nat) (s0 : RS) (z : Nat × List Ch × RS) : Prop where
  le : z.1 ≤ n
  at_ : z.2.2.1 ≤ B.length
  cnt : z.2.1.length = z.1
  eq : lsN B n s0 = (z.2.1 ++ (lsN B (n - z.1) z.2.2).1, (lsN B (n - z.1) z.2.2).2)
theorem LsI.next {B n s0 z} (h : LsI B n s0 z) (hB : Bytes B) (hlt : z.1 < n) (he : z.2.2.2 = 0) : LsI B n s0 (z.1 + 1, z.2.1 ++ [⟨(numS B z.2.2).1, (textS B (numS B z.2.2).2).1, (textS B (textS B (numS B z.2.2).2).2).1⟩], (textS B (textS B (numS B z.2.2).2).2).2) :=
  ⟨hlt, text_at hB (text_at hB (nu_bd hB h.at_).2.2), by simp [h.cnt], by
    rw [h.eq, show n - z.1 = (n - (z.1 + 1)) + 1 by omega, lsN, if_pos he]
    simp⟩
theorem LsI.done {B n s0 z} (h : LsI B n s0 z) (hd : ¬ z.1 < n ∨ ¬ z.2.2.2 = 0) : lsN B n s0 = (z.2.1, z.2.2) := by
  rw [h.eq]
  by_cases hl : z.1 < n
  · have he : ¬ z.2.2.2 = 0 := hd.resolve_left (fun q => q hl)
    rw [show n - z.1 = (n - (z.1 + 1)) + 1 by omega, lsN, if_neg he]
    simp
  · rw [show n - z.1 = 0 by omega, lsN]
    simp
end Go.Proofs.YtdpflafjfkooeaaG
namespace Go.Proofs.YtdpflafjfkooeaaG
open Go Go.RowKit Go.Proofs Go.Proofs.YtdpflafjfkooeaaG.Dec
set_option linter.unusedSimpArgs false
set_option linter.unusedVariables false
theorem stB_le {n : Int} {s : St} (hs : s.ok) : (stB n s).length ≤ 10000000000000 := by
  have l1 := pieceF_le s.text
  have l2 := chsF_le (l := s.undo) fun c hc => (hs.undo c hc).small
  have l3 := chsF_le (l := s.redo) fun c hc => (hs.redo c hc).small
  have := hs.len; have := hs.ulen; have := hs.rlen
  simp only [stB, List.length_append, numB_len]; omega
theorem stF_e {xs : List Int} {e : Int} (h : readSt xs = .bad e) : readStF xs = (0, st00, e) := by unfold readStF; rw [h]
theorem stF_r0 {xs rest : List Int} {n : Int} {s : St} (h : readSt xs = .ok (n, s) rest) (h0 : rightF s = 0) : readStF xs = (n, s, 0) := by unfold readStF; rw [h]; exact if_pos h0
theorem readState_B {n : Int} {s : St} (hn : isI n = true) (hs : s.ok) (h : rightF s = 0) : CallOk Try.prog 29 [sl (bs (stB n s))] (stE (n, s, 0)) [] false := by
  have q := readSt_F hn (right_W hs h)
  have := readState_ok' (stB n s) ⟨stB_byte n s, by have := stB_le (n := n) hs; omega⟩ fun c s' rest q' => by rw [q] at q'; cases q'; exact hs
  rwa [stF_r0 q h] at this
theorem readStF_bad {xs : List Int} (h : ¬ (readStF xs).2.2 = 0) : readStF xs = (0, st00, (readStF xs).2.2) := by
  cases q : readSt xs with
  | bad e => rw [stF_e q]
  | ok p rest =>
    obtain ⟨n, s⟩ := p
    by_cases h0 : rightF s = 0
    · rw [stF_r0 q h0] at h; exact absurd rfl h
    · have e : readStF xs = (0, st00, rightF s) := by unfold readStF; rw [q]; exact if_neg h0
      rw [e]
theorem readStF_good {xs : List Int} (hB : Bytes xs) (h : (readStF xs).2.2 = 0) : ∃ n s rest, readSt xs = .ok (n, s) rest ∧ rightF s = 0 ∧ readStF xs = (n, s, 0) ∧ xs = stB n s ∧ isI n = true := by
  cases q : readSt xs with
  | bad e => rw [stF_e q] at h; exact absurd h (readSt_e q)
  | ok p rest =>
    obtain ⟨n, s⟩ := p
    by_cases h0 : rightF s = 0
    · obtain ⟨e1, e2⟩ := st_back q hB
      exact ⟨n, s, rest, rfl, h0, stF_r0 q h0, e1, e2⟩
    · have e : readStF xs = (0, st00, rightF s) := by unfold readStF; rw [q]; exact if_neg h0
      rw [e] at h; exact absurd h h0
theorem sameT (s : St) (hs : s.ok) : CallOk Try.prog 15 [s.x, s.x] (bo true) [] true := by
  have hsm : s.small := ⟨Nat.le_trans hs.len (by omega), fun c hc => (hs.undo c hc).small, fun c hc => (hs.redo c hc).small, Nat.le_trans hs.ulen (by omega), Nat.le_trans hs.rlen (by omega)⟩
  have := sameSt_ok s s hsm hsm
  rwa [decide_eq_true rfl] at this
end Go.Proofs.YtdpflafjfkooeaaG
namespace Go.Proofs.YtdpflafjfkooeaaG
open Go Go.RowKit Go.Proofs Go.Proofs.YtdpflafjfkooeaaG.Dec
set_option linter.unusedSimpArgs false
set_option linter.unusedVariables false
theorem readStF_ok {xs : List Int} (g : BytN 100000 xs) : (readStF xs).2.1.ok := by
  cases q : readSt xs with
  | bad e => rw [stF_e q]; exact st00_ok
  | ok p rest =>
    obtain ⟨n, s⟩ := p
    by_cases h0 : rightF s = 0
    · rw [stF_r0 q h0]; exact readSt_ok g q
    · have e : readStF xs = (0, st00, rightF s) := by unfold readStF; rw [q]; exact if_neg h0
      rw [e]; exact st00_ok
set_option maxRecDepth 10000 in
set_option maxHeartbeats 16000000 in
theorem codecLasts_law (l : List Opn) (n : Int) (b : List Int) (hl : l.length ≤ 2000000) (h : ∀ o ∈ l, R32s o.text) (h2 : ∀ o ∈ l, o.text.length ≤ 2000000) (hB : Bytes b) (hbl : b.length ≤ 2000000) : CallOk Try.prog 7 [sln 4 (ops l), i64 n, sl (bs b)] (bo true) [] true := by
  have w := works23_ok
  have hwr := written_ok goes_ok l hl h h2
  have hs := wrN_ok h (min l.length 40) (Nat.min_le_left _ _)
  have hs0 := wrN_right h (min l.length 40) (Nat.min_le_left _ _)
  generalize wrN l (min l.length 40) = s at hwr hs hs0
  have c1 := wstate_ok n s hs
  have c5 := sameT s hs
  have c9 := sameT st00 st00_ok
  have c6 : b.length ≤ 20000 → CallOk Try.prog 29 [sl (bs b)] (stE (readStF b)) [] false := fun hb => readState_ok b ⟨hB, by omega⟩
  have c7 : b.length ≤ 20000 → (readStF b).2.2 = 0 → CallOk Try.prog 27 [i64 (readStF b).1, (readStF b).2.1.x] (.tup [.one (.sr 0), .one (.v (.raw (.int .i64 0)))]) [(5, 1, bs b)] true := fun hb h0 => by
    have ho := readStF_ok (xs := b) ⟨hB, by omega⟩
    obtain ⟨m, t, rest, q1, q2, q3, q4, q5⟩ := readStF_good hB h0
    rw [q3] at ho ⊢
    have := wstate_ok m t ho
    rw [stF_B q5 q2, ← q4] at this
    exact this
  have c8 : ¬ (readStF b).2.2 = 0 → (readStF b).1 = 0 ∧ (readStF b).2.1 = st00 := fun h0 => by
    have := readStF_bad h0
    rw [this]; exact ⟨rfl, rfl⟩
  generalize readStF b = p at *
  obtain ⟨m, t, e⟩ := p
  simp only [] at c6 c7 c8
  by_cases hn : isI n = true
  · have c3 := readState_B hn hs hs0
    have hi := isI_dest hn
    rw [stF_B hn hs0] at c1
    generalize stB n s = z at *
    by_cases he : e = 0
    · subst he
      have c7' := fun hb => c7 hb rfl
      refine fn_ok' T_ok (orc_ok _) mixed Try.func7 rfl (by kernel_rfl) (lv [[0, 1, 2], [0, 1, 2, 19], [6], [1, 2, 7], [1, 2, 7, 8, 9, 1000008], [1, 2, 7, 8, 29], [1, 2, 7, 10, 11, 12], [2, 48], [6], [2, 54], [6], [2, 57], [6], [2, 13, 14, 15], [2, 13, 14, 65], [6], [2, 16, 17], [6]]) 88 rfl (by simp) rfl (by simp [X.all, PX.all, TV.rawR, SV.isRaw]) ?_
      simp only [argsG, Nat.zero_add, Nat.reduceAdd, St.x, stE, St.cs, st00] at *
      repeat' first
        | ((first
            | ((with_reducible refine vR_cons (by decide) ?_); generalize hk : KtR _ _ _ _ _ _ _ _ _ _ = k)
            | ((first
            | with_reducible refine vOps_cons' ?_
            | ((with_reducible apply orc_b); (focus (exact w; done)); (all_goals (intro hb; (try simp only [decide_eq_true_eq, decide_eq_false_iff_not, Bool.not_eq_true', Bool.not_eq_false', Bool.and_eq_true, Decidable.not_not] at hb))))
            | ((with_reducible apply orc_i); (focus (exact hwr; done)))
            | ((with_reducible apply orc_i); (focus (exact c1; done)))
            | ((with_reducible apply orc_i); (focus (exact c3; done)))
            | ((with_reducible apply orc_i); (focus (exact c5; done)))
            | ((with_reducible apply orc_i); (focus (exact c6 (by omega); done)))
            | ((with_reducible apply orc_i); (focus (exact c7' (by omega); done)))) <;> generalize hk : Kt _ _ _ _ _ _ _ _ _ = k)) <;> (simp only [Try.f7, lv, E1, E2, E5, ET, T, orc_mv, noO_mv, mvB, orc_bx, noO_bx, bxB, fwd, fwds, inv, mOk, Int.toNat_natCast, Nat.div_one, Nat.mul_one, Int.reduceToNat, SB, List.not_mem_nil, ↓reduceIte, ne_eq, reduceCtorEq, Nat.reduceLT, Nat.reduceEqDiff, Nat.reduceAdd, Nat.reduceMul, Nat.reduceLeDiff, Nat.reduceDiv, Nat.reduceMod, Nat.reduceSub, Nat.reduceBEq, List.length_map, bs_len, rn_len, chs_len, chs_cnt, ops_len, ops_cnt, Opn.x, St.x, St.rx]; (try simp (disch := omega) only [wrap_in, Int.toNat_natCast, tv_rn, tv_ch0, tv_ch1, tv_ch2, tv_op0, tv_op1, tv_op2, tv_op3]); subst hk))
        | with_reducible first | refine Kt_p ?_ | refine Kt_i (by kernel_rfl) ?_ | refine Kr_f (by kernel_rfl) ?_
        | (with_reducible refine Kr_t ?_; simp only [List.length_append, List.length_cons, List.length_nil, Nat.reduceAdd, Nat.reduceSub, List.drop_succ_cons, List.drop_zero])
        | with_reducible first | refine vR_nil ?_ | refine KtR_i (by kernel_rfl) ?_ | refine KrR_i (by kernel_rfl) ?_ | refine vR_skip (by decide) ?_
        | ((with_reducible refine vB_i ?_ ?_) <;> intro _ <;> (first | (exfalso; omega) | (exact absurd trivial ‹¬True›) | (try dsimp only [])))
        | ((with_reducible refine vOps_nil' ?_); refine Kr_i (by kernel_rfl) ?_; generalize hk : plain _ _ = G; simp only [lv, E3, E2, E5, rawX, deadX, SB, List.not_mem_nil, ↓reduceIte, ne_eq, reduceCtorEq, Nat.reduceLT, Nat.reduceEqDiff, Nat.reduceAdd, Nat.reduceMul, Nat.reduceLeDiff, Nat.reduceDiv, Nat.reduceMod, Nat.reduceSub, Nat.reduceBEq, List.length_map, bs_len, rn_len, chs_len, chs_cnt, ops_len, ops_cnt, Opn.x, St.x, St.rx] at hk; subst hk)
        | with_reducible refine vSeq_i ?_
        | with_reducible first | refine vRegion_i (by kernel_rfl) ?_ | refine Kv_i ?_
        | ((with_reducible apply vStrK_i); (focus (rfl; done)))
        | ((with_reducible refine imp_i ?_); intro _)
        | with_reducible first | refine Ks_n ?_ | refine Ks_r ?_ | refine Ks_e ?_ | refine Kl_e ?_ | refine Kx_n ?_ | refine Kl_r ?_ | refine vRet_i ?_ | refine vSkip_i ?_ | refine vExit_i ?_ | refine vBlock_i ?_ | refine Ks_p ?_ | refine Kl_p ?_ | refine blk_p ?_ | exact Kb_p | refine vGoto_i ?_ | refine vLabel_i ?_ | refine Ks_g ?_ | refine Kl_g ?_ | refine blk_g ?_ | refine jmp_g ?_ | refine jmp_n ?_ | refine jmp_r ?_ | refine nog_n ?_ | refine nog_r ?_ | refine blk_n ?_ | refine blk_r ?_ | refine blk_e ?_ | refine blk_o (by decide) ?_ | refine cp_t ?_ | refine cp_f ?_
        | ((with_reducible apply vCond_x); (focus (simp only [lv, E1, E2, E5, ET, T, orc_mv, noO_mv, mvB, orc_bx, noO_bx, bxB, fwd, fwds, inv, mOk, Int.toNat_natCast, Nat.div_one, Nat.mul_one, Int.reduceToNat, SB, List.not_mem_nil, ↓reduceIte, ne_eq, reduceCtorEq, Nat.reduceLT, Nat.reduceEqDiff, Nat.reduceAdd, Nat.reduceMul, Nat.reduceLeDiff, Nat.reduceDiv, Nat.reduceMod, Nat.reduceSub, Nat.reduceBEq, List.length_map, bs_len, rn_len, chs_len, chs_cnt, ops_len, ops_cnt, Opn.x, St.x, St.rx]; with_reducible first | exact Eq.refl (bo true) | exact Eq.refl (bo false))))
        | ((with_reducible refine And.intro ?_ ?_); (focus (try omega)))
      all_goals first | (exfalso; omega) | (exfalso; exact absurd hb (by decide)) | (refine Kf_r ?_; simp only [Try.f7, E4, E3, E2, E5, rawX, deadX, ET, T, SB, List.not_mem_nil, ↓reduceIte, ne_eq, reduceCtorEq, Nat.reduceLT, Nat.reduceEqDiff, Nat.reduceAdd, Nat.reduceMul, Nat.reduceLeDiff, Nat.reduceDiv, Nat.reduceMod, Nat.reduceSub, Nat.reduceBEq, List.length_map, bs_len, rn_len, chs_len, chs_cnt, ops_len, ops_cnt, Opn.x, St.x, St.rx]; done) | skip
      all_goals trace_state
    · obtain ⟨rfl, rfl⟩ := c8 he
      refine fn_ok' T_ok (orc_ok _) mixed Try.func7 rfl (by kernel_rfl) (lv [[0, 1, 2], [0, 1, 2, 19], [6], [1, 2, 7], [1, 2, 7, 8, 9, 1000008], [1, 2, 7, 8, 29], [1, 2, 7, 10, 11, 12], [2, 48], [6], [2, 54], [6], [2, 57], [6], [2, 13, 14, 15], [2, 13, 14, 65], [6], [2, 16, 17], [6]]) 88 rfl (by simp) rfl (by simp [X.all, PX.all, TV.rawR, SV.isRaw]) ?_
      simp only [argsG, Nat.zero_add, Nat.reduceAdd, St.x, stE, St.cs, st00] at *
      repeat' first
        | ((first
            | ((with_reducible refine vR_cons (by decide) ?_); generalize hk : KtR _ _ _ _ _ _ _ _ _ _ = k)
            | ((first
            | with_reducible refine vOps_cons' ?_
            | ((with_reducible apply orc_b); (focus (exact w; done)); (all_goals (intro hb; (try simp only [decide_eq_true_eq, decide_eq_false_iff_not, Bool.not_eq_true', Bool.not_eq_false', Bool.and_eq_true, Decidable.not_not] at hb))))
            | ((with_reducible apply orc_i); (focus (exact hwr; done)))
            | ((with_reducible apply orc_i); (focus (exact c1; done)))
            | ((with_reducible apply orc_i); (focus (exact c3; done)))
            | ((with_reducible apply orc_i); (focus (exact c5; done)))
            | ((with_reducible apply orc_i); (focus (exact c6 (by omega); done)))
            | ((with_reducible apply orc_i); (focus (exact c9; done)))) <;> generalize hk : Kt _ _ _ _ _ _ _ _ _ = k)) <;> (simp only [Try.f7, lv, E1, E2, E5, ET, T, orc_mv, noO_mv, mvB, orc_bx, noO_bx, bxB, fwd, fwds, inv, mOk, Int.toNat_natCast, Nat.div_one, Nat.mul_one, Int.reduceToNat, SB, List.not_mem_nil, ↓reduceIte, ne_eq, reduceCtorEq, Nat.reduceLT, Nat.reduceEqDiff, Nat.reduceAdd, Nat.reduceMul, Nat.reduceLeDiff, Nat.reduceDiv, Nat.reduceMod, Nat.reduceSub, Nat.reduceBEq, List.length_map, bs_len, rn_len, chs_len, chs_cnt, ops_len, ops_cnt, Opn.x, St.x, St.rx]; (try simp (disch := omega) only [wrap_in, Int.toNat_natCast, tv_rn, tv_ch0, tv_ch1, tv_ch2, tv_op0, tv_op1, tv_op2, tv_op3]); subst hk))
        | with_reducible first | refine Kt_p ?_ | refine Kt_i (by kernel_rfl) ?_ | refine Kr_f (by kernel_rfl) ?_
        | (with_reducible refine Kr_t ?_; simp only [List.length_append, List.length_cons, List.length_nil, Nat.reduceAdd, Nat.reduceSub, List.drop_succ_cons, List.drop_zero])
        | with_reducible first | refine vR_nil ?_ | refine KtR_i (by kernel_rfl) ?_ | refine KrR_i (by kernel_rfl) ?_ | refine vR_skip (by decide) ?_
        | ((with_reducible refine vB_i ?_ ?_) <;> intro _ <;> (first | (exfalso; omega) | (exact absurd trivial ‹¬True›) | (try dsimp only [])))
        | ((with_reducible refine vOps_nil' ?_); refine Kr_i (by kernel_rfl) ?_; generalize hk : plain _ _ = G; simp only [lv, E3, E2, E5, rawX, deadX, SB, List.not_mem_nil, ↓reduceIte, ne_eq, reduceCtorEq, Nat.reduceLT, Nat.reduceEqDiff, Nat.reduceAdd, Nat.reduceMul, Nat.reduceLeDiff, Nat.reduceDiv, Nat.reduceMod, Nat.reduceSub, Nat.reduceBEq, List.length_map, bs_len, rn_len, chs_len, chs_cnt, ops_len, ops_cnt, Opn.x, St.x, St.rx] at hk; subst hk)
        | with_reducible refine vSeq_i ?_
        | with_reducible first | refine vRegion_i (by kernel_rfl) ?_ | refine Kv_i ?_
        | ((with_reducible apply vStrK_i); (focus (rfl; done)))
        | ((with_reducible refine imp_i ?_); intro _)
        | with_reducible first | refine Ks_n ?_ | refine Ks_r ?_ | refine Ks_e ?_ | refine Kl_e ?_ | refine Kx_n ?_ | refine Kl_r ?_ | refine vRet_i ?_ | refine vSkip_i ?_ | refine vExit_i ?_ | refine vBlock_i ?_ | refine Ks_p ?_ | refine Kl_p ?_ | refine blk_p ?_ | exact Kb_p | refine vGoto_i ?_ | refine vLabel_i ?_ | refine Ks_g ?_ | refine Kl_g ?_ | refine blk_g ?_ | refine jmp_g ?_ | refine jmp_n ?_ | refine jmp_r ?_ | refine nog_n ?_ | refine nog_r ?_ | refine blk_n ?_ | refine blk_r ?_ | refine blk_e ?_ | refine blk_o (by decide) ?_ | refine cp_t ?_ | refine cp_f ?_
        | ((with_reducible apply vCond_x); (focus (simp only [lv, E1, E2, E5, ET, T, orc_mv, noO_mv, mvB, orc_bx, noO_bx, bxB, fwd, fwds, inv, mOk, Int.toNat_natCast, Nat.div_one, Nat.mul_one, Int.reduceToNat, SB, List.not_mem_nil, ↓reduceIte, ne_eq, reduceCtorEq, Nat.reduceLT, Nat.reduceEqDiff, Nat.reduceAdd, Nat.reduceMul, Nat.reduceLeDiff, Nat.reduceDiv, Nat.reduceMod, Nat.reduceSub, Nat.reduceBEq, List.length_map, bs_len, rn_len, chs_len, chs_cnt, ops_len, ops_cnt, Opn.x, St.x, St.rx]; with_reducible first | exact Eq.refl (bo true) | exact Eq.refl (bo false))))
        | ((with_reducible refine And.intro ?_ ?_); (focus (try omega)))
      all_goals first | (exfalso; omega) | (exfalso; exact absurd hb (by decide)) | (refine Kf_r ?_; simp only [Try.f7, E4, E3, E2, E5, rawX, deadX, ET, T, SB, List.not_mem_nil, ↓reduceIte, ne_eq, reduceCtorEq, Nat.reduceLT, Nat.reduceEqDiff, Nat.reduceAdd, Nat.reduceMul, Nat.reduceLeDiff, Nat.reduceDiv, Nat.reduceMod, Nat.reduceSub, Nat.reduceBEq, List.length_map, bs_len, rn_len, chs_len, chs_cnt, ops_len, ops_cnt, Opn.x, St.x, St.rx]; done) | skip
      all_goals trace_state
  · have hn' : isI n = false := by cases q : isI n with | true => exact absurd q hn | false => rfl
    have hi : ¬ (0 ≤ n ∧ n ≤ 2147483647) := of_decide_eq_false hn'
    rw [stF_n hn'] at c1
    by_cases he : e = 0
    · subst he
      have c7' := fun hb => c7 hb rfl
      refine fn_ok' T_ok (orc_ok _) mixed Try.func7 rfl (by kernel_rfl) (lv [[0, 1, 2], [0, 1, 2, 19], [6], [1, 2, 7], [1, 2, 7, 8, 9, 1000008], [1, 2, 7, 8, 29], [1, 2, 7, 10, 11, 12], [2, 48], [6], [2, 54], [6], [2, 57], [6], [2, 13, 14, 15], [2, 13, 14, 65], [6], [2, 16, 17], [6]]) 88 rfl (by simp) rfl (by simp [X.all, PX.all, TV.rawR, SV.isRaw]) ?_
      simp only [argsG, Nat.zero_add, Nat.reduceAdd, St.x, stE, St.cs, st00] at *
      repeat' first
        | ((first
            | ((with_reducible refine vR_cons (by decide) ?_); generalize hk : KtR _ _ _ _ _ _ _ _ _ _ = k)
            | ((first
            | with_reducible refine vOps_cons' ?_
            | ((with_reducible apply orc_b); (focus (exact w; done)); (all_goals (intro hb; (try simp only [decide_eq_true_eq, decide_eq_false_iff_not, Bool.not_eq_true', Bool.not_eq_false', Bool.and_eq_true, Decidable.not_not] at hb))))
            | ((with_reducible apply orc_i); (focus (exact hwr; done)))
            | ((with_reducible apply orc_i); (focus (exact c1; done)))
            | ((with_reducible apply orc_i); (focus (exact c6 (by omega); done)))
            | ((with_reducible apply orc_i); (focus (exact c7' (by omega); done)))) <;> generalize hk : Kt _ _ _ _ _ _ _ _ _ = k)) <;> (simp only [Try.f7, lv, E1, E2, E5, ET, T, orc_mv, noO_mv, mvB, orc_bx, noO_bx, bxB, fwd, fwds, inv, mOk, Int.toNat_natCast, Nat.div_one, Nat.mul_one, Int.reduceToNat, SB, List.not_mem_nil, ↓reduceIte, ne_eq, reduceCtorEq, Nat.reduceLT, Nat.reduceEqDiff, Nat.reduceAdd, Nat.reduceMul, Nat.reduceLeDiff, Nat.reduceDiv, Nat.reduceMod, Nat.reduceSub, Nat.reduceBEq, List.length_map, bs_len, rn_len, chs_len, chs_cnt, ops_len, ops_cnt, Opn.x, St.x, St.rx]; (try simp (disch := omega) only [wrap_in, Int.toNat_natCast, tv_rn, tv_ch0, tv_ch1, tv_ch2, tv_op0, tv_op1, tv_op2, tv_op3]); subst hk))
        | with_reducible first | refine Kt_p ?_ | refine Kt_i (by kernel_rfl) ?_ | refine Kr_f (by kernel_rfl) ?_
        | (with_reducible refine Kr_t ?_; simp only [List.length_append, List.length_cons, List.length_nil, Nat.reduceAdd, Nat.reduceSub, List.drop_succ_cons, List.drop_zero])
        | with_reducible first | refine vR_nil ?_ | refine KtR_i (by kernel_rfl) ?_ | refine KrR_i (by kernel_rfl) ?_ | refine vR_skip (by decide) ?_
        | ((with_reducible refine vB_i ?_ ?_) <;> intro _ <;> (first | (exfalso; omega) | (exact absurd trivial ‹¬True›) | (try dsimp only [])))
        | ((with_reducible refine vOps_nil' ?_); refine Kr_i (by kernel_rfl) ?_; generalize hk : plain _ _ = G; simp only [lv, E3, E2, E5, rawX, deadX, SB, List.not_mem_nil, ↓reduceIte, ne_eq, reduceCtorEq, Nat.reduceLT, Nat.reduceEqDiff, Nat.reduceAdd, Nat.reduceMul, Nat.reduceLeDiff, Nat.reduceDiv, Nat.reduceMod, Nat.reduceSub, Nat.reduceBEq, List.length_map, bs_len, rn_len, chs_len, chs_cnt, ops_len, ops_cnt, Opn.x, St.x, St.rx] at hk; subst hk)
        | with_reducible refine vSeq_i ?_
        | with_reducible first | refine vRegion_i (by kernel_rfl) ?_ | refine Kv_i ?_
        | ((with_reducible apply vStrK_i); (focus (rfl; done)))
        | ((with_reducible refine imp_i ?_); intro _)
        | with_reducible first | refine Ks_n ?_ | refine Ks_r ?_ | refine Ks_e ?_ | refine Kl_e ?_ | refine Kx_n ?_ | refine Kl_r ?_ | refine vRet_i ?_ | refine vSkip_i ?_ | refine vExit_i ?_ | refine vBlock_i ?_ | refine Ks_p ?_ | refine Kl_p ?_ | refine blk_p ?_ | exact Kb_p | refine vGoto_i ?_ | refine vLabel_i ?_ | refine Ks_g ?_ | refine Kl_g ?_ | refine blk_g ?_ | refine jmp_g ?_ | refine jmp_n ?_ | refine jmp_r ?_ | refine nog_n ?_ | refine nog_r ?_ | refine blk_n ?_ | refine blk_r ?_ | refine blk_e ?_ | refine blk_o (by decide) ?_ | refine cp_t ?_ | refine cp_f ?_
        | ((with_reducible apply vCond_x); (focus (simp only [lv, E1, E2, E5, ET, T, orc_mv, noO_mv, mvB, orc_bx, noO_bx, bxB, fwd, fwds, inv, mOk, Int.toNat_natCast, Nat.div_one, Nat.mul_one, Int.reduceToNat, SB, List.not_mem_nil, ↓reduceIte, ne_eq, reduceCtorEq, Nat.reduceLT, Nat.reduceEqDiff, Nat.reduceAdd, Nat.reduceMul, Nat.reduceLeDiff, Nat.reduceDiv, Nat.reduceMod, Nat.reduceSub, Nat.reduceBEq, List.length_map, bs_len, rn_len, chs_len, chs_cnt, ops_len, ops_cnt, Opn.x, St.x, St.rx]; with_reducible first | exact Eq.refl (bo true) | exact Eq.refl (bo false))))
        | ((with_reducible refine And.intro ?_ ?_); (focus (try omega)))
      all_goals first | (exfalso; omega) | (exfalso; exact absurd hb (by decide)) | (refine Kf_r ?_; simp only [Try.f7, E4, E3, E2, E5, rawX, deadX, ET, T, SB, List.not_mem_nil, ↓reduceIte, ne_eq, reduceCtorEq, Nat.reduceLT, Nat.reduceEqDiff, Nat.reduceAdd, Nat.reduceMul, Nat.reduceLeDiff, Nat.reduceDiv, Nat.reduceMod, Nat.reduceSub, Nat.reduceBEq, List.length_map, bs_len, rn_len, chs_len, chs_cnt, ops_len, ops_cnt, Opn.x, St.x, St.rx]; done) | skip
      all_goals trace_state
    · obtain ⟨rfl, rfl⟩ := c8 he
      refine fn_ok' T_ok (orc_ok _) mixed Try.func7 rfl (by kernel_rfl) (lv [[0, 1, 2], [0, 1, 2, 19], [6], [1, 2, 7], [1, 2, 7, 8, 9, 1000008], [1, 2, 7, 8, 29], [1, 2, 7, 10, 11, 12], [2, 48], [6], [2, 54], [6], [2, 57], [6], [2, 13, 14, 15], [2, 13, 14, 65], [6], [2, 16, 17], [6]]) 88 rfl (by simp) rfl (by simp [X.all, PX.all, TV.rawR, SV.isRaw]) ?_
      simp only [argsG, Nat.zero_add, Nat.reduceAdd, St.x, stE, St.cs, st00] at *
      repeat' first
        | ((first
            | ((with_reducible refine vR_cons (by decide) ?_); generalize hk : KtR _ _ _ _ _ _ _ _ _ _ = k)
            | ((first
            | with_reducible refine vOps_cons' ?_
            | ((with_reducible apply orc_b); (focus (exact w; done)); (all_goals (intro hb; (try simp only [decide_eq_true_eq, decide_eq_false_iff_not, Bool.not_eq_true', Bool.not_eq_false', Bool.and_eq_true, Decidable.not_not] at hb))))
            | ((with_reducible apply orc_i); (focus (exact hwr; done)))
            | ((with_reducible apply orc_i); (focus (exact c1; done)))
            | ((with_reducible apply orc_i); (focus (exact c6 (by omega); done)))
            | ((with_reducible apply orc_i); (focus (exact c9; done)))) <;> generalize hk : Kt _ _ _ _ _ _ _ _ _ = k)) <;> (simp only [Try.f7, lv, E1, E2, E5, ET, T, orc_mv, noO_mv, mvB, orc_bx, noO_bx, bxB, fwd, fwds, inv, mOk, Int.toNat_natCast, Nat.div_one, Nat.mul_one, Int.reduceToNat, SB, List.not_mem_nil, ↓reduceIte, ne_eq, reduceCtorEq, Nat.reduceLT, Nat.reduceEqDiff, Nat.reduceAdd, Nat.reduceMul, Nat.reduceLeDiff, Nat.reduceDiv, Nat.reduceMod, Nat.reduceSub, Nat.reduceBEq, List.length_map, bs_len, rn_len, chs_len, chs_cnt, ops_len, ops_cnt, Opn.x, St.x, St.rx]; (try simp (disch := omega) only [wrap_in, Int.toNat_natCast, tv_rn, tv_ch0, tv_ch1, tv_ch2, tv_op0, tv_op1, tv_op2, tv_op3]); subst hk))
        | with_reducible first | refine Kt_p ?_ | refine Kt_i (by kernel_rfl) ?_ | refine Kr_f (by kernel_rfl) ?_
        | (with_reducible refine Kr_t ?_; simp only [List.length_append, List.length_cons, List.length_nil, Nat.reduceAdd, Nat.reduceSub, List.drop_succ_cons, List.drop_zero])
        | with_reducible first | refine vR_nil ?_ | refine KtR_i (by kernel_rfl) ?_ | refine KrR_i (by kernel_rfl) ?_ | refine vR_skip (by decide) ?_
        | ((with_reducible refine vB_i ?_ ?_) <;> intro _ <;> (first | (exfalso; omega) | (exact absurd trivial ‹¬True›) | (try dsimp only [])))
        | ((with_reducible refine vOps_nil' ?_); refine Kr_i (by kernel_rfl) ?_; generalize hk : plain _ _ = G; simp only [lv, E3, E2, E5, rawX, deadX, SB, List.not_mem_nil, ↓reduceIte, ne_eq, reduceCtorEq, Nat.reduceLT, Nat.reduceEqDiff, Nat.reduceAdd, Nat.reduceMul, Nat.reduceLeDiff, Nat.reduceDiv, Nat.reduceMod, Nat.reduceSub, Nat.reduceBEq, List.length_map, bs_len, rn_len, chs_len, chs_cnt, ops_len, ops_cnt, Opn.x, St.x, St.rx] at hk; subst hk)
        | with_reducible refine vSeq_i ?_
        | with_reducible first | refine vRegion_i (by kernel_rfl) ?_ | refine Kv_i ?_
        | ((with_reducible apply vStrK_i); (focus (rfl; done)))
        | ((with_reducible refine imp_i ?_); intro _)
        | with_reducible first | refine Ks_n ?_ | refine Ks_r ?_ | refine Ks_e ?_ | refine Kl_e ?_ | refine Kx_n ?_ | refine Kl_r ?_ | refine vRet_i ?_ | refine vSkip_i ?_ | refine vExit_i ?_ | refine vBlock_i ?_ | refine Ks_p ?_ | refine Kl_p ?_ | refine blk_p ?_ | exact Kb_p | refine vGoto_i ?_ | refine vLabel_i ?_ | refine Ks_g ?_ | refine Kl_g ?_ | refine blk_g ?_ | refine jmp_g ?_ | refine jmp_n ?_ | refine jmp_r ?_ | refine nog_n ?_ | refine nog_r ?_ | refine blk_n ?_ | refine blk_r ?_ | refine blk_e ?_ | refine blk_o (by decide) ?_ | refine cp_t ?_ | refine cp_f ?_
        | ((with_reducible apply vCond_x); (focus (simp only [lv, E1, E2, E5, ET, T, orc_mv, noO_mv, mvB, orc_bx, noO_bx, bxB, fwd, fwds, inv, mOk, Int.toNat_natCast, Nat.div_one, Nat.mul_one, Int.reduceToNat, SB, List.not_mem_nil, ↓reduceIte, ne_eq, reduceCtorEq, Nat.reduceLT, Nat.reduceEqDiff, Nat.reduceAdd, Nat.reduceMul, Nat.reduceLeDiff, Nat.reduceDiv, Nat.reduceMod, Nat.reduceSub, Nat.reduceBEq, List.length_map, bs_len, rn_len, chs_len, chs_cnt, ops_len, ops_cnt, Opn.x, St.x, St.rx]; with_reducible first | exact Eq.refl (bo true) | exact Eq.refl (bo false))))
        | ((with_reducible refine And.intro ?_ ?_); (focus (try omega)))
      all_goals first | (exfalso; omega) | (exfalso; exact absurd hb (by decide)) | (refine Kf_r ?_; simp only [Try.f7, E4, E3, E2, E5, rawX, deadX, ET, T, SB, List.not_mem_nil, ↓reduceIte, ne_eq, reduceCtorEq, Nat.reduceLT, Nat.reduceEqDiff, Nat.reduceAdd, Nat.reduceMul, Nat.reduceLeDiff, Nat.reduceDiv, Nat.reduceMod, Nat.reduceSub, Nat.reduceBEq, List.length_map, bs_len, rn_len, chs_len, chs_cnt, ops_len, ops_cnt, Opn.x, St.x, St.rx]; done) | skip
      all_goals trace_state
end Go.Proofs.YtdpflafjfkooeaaG
/- L23Lasts: CodecLasts at what came in. -/
namespace Go.Proofs.YtdpflafjfkooeaaG
open Go Go.RowKit Go.Proofs Go.Proofs.Ytdpflafjfkooeaa Go.Proofs.YtdpflafjfkooeaaG.Dec
theorem codecLasts_in {W : World} {v0 v1 v2 : Value} {x0 x1 x2 : SV} (t0 : Typ T 1048576 59 [x0]) (a0 : XR W (gI W) v0 (.p (.one (.v x0)))) (t1 : Typ T 1048576 3 [x1]) (a1 : XR W (gI W) v1 (.p (.one (.v x1))))
    (t2 : Typ T 1048576 41 [x2]) (a2 : XR W (gI W) v2 (.p (.one (.v x2)))) :
    Calls Try.prog 7 #[v0, v1, v2] W fun e W' => e = .returned (.bool true) ∧ Below W.heap.size W W' := by
  obtain ⟨l, rfl, hl, ho⟩ := typ_ops23 t0
  obtain ⟨n, rfl⟩ := typ_int23 t1
  obtain ⟨b, rfl, hB, hb⟩ := typ_bytes t2
  exact law_calls (codecLasts_law l n b (by omega) (fun o h => (ho o h).run) (fun o h => Nat.le_trans (ho o h).len (by omega)) hB (by omega)) (.cons a0 (.cons a1 (.cons a2 .nil)))
end Go.Proofs.YtdpflafjfkooeaaG
