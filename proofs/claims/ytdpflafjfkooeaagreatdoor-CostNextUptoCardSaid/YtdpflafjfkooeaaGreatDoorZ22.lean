/- YtdpflafjfkooeaaGreatDoorZ22: a part of the proof, joined of its texts. -/
import Derived.Test.YtdpflafjfkooeaaGreatDoorZ21
/- R1: what is written of an operation or a state is read, and what is read is written so (plain Lean). -/
namespace Go.Proofs.YtdpflafjfkooeaaGreatDoorG
open Go Go.RowKit Go.Proofs Go.Proofs.YtdpflafjfkooeaaGreatDoorG.Dec
set_option linter.unusedSimpArgs false
set_option linter.unusedVariables false
/-! ### numbers and texts -/
theorem isI_dest {n : Int} (h : isI n = true) : 0 ≤ n ∧ n ≤ 2147483647 := of_decide_eq_true h
theorem numR_numB {n : Int} (h : isI n = true) (r : List Int) : numR (numB n ++ r) = n := by
  have h' := isI_dest h
  show n / 16777216 % 256 * 16777216 + n / 65536 % 256 * 65536 + n / 256 % 256 * 256 + n % 256 = n
  omega
theorem readNum_B {n : Int} (h : isI n = true) (r : List Int) : readNum (numB n ++ r) = .ok n r := by
  have h' := isI_dest h
  unfold readNum
  rw [numR_numB h, if_pos (by simp only [List.length_append, numB_len]; omega), if_neg (by omega)]
  rfl
theorem encV_forms {l : List Int} (h : scal l) : encV l = forms l := by
  unfold encV; rw [if_pos h, forms_F ((gd_scal l).2 h)]
theorem readText_V {l : List Int} (h : scal l) (r : List Int) : readText ((encV l).length : Int) (encV l ++ r) = .ok l r := by
  have e : ((encV l ++ r).take ((encV l).length : Int).toNat) = encV l := by rw [Int.toNat_natCast]; exact List.take_left' rfl
  have d : (encV l ++ r).drop ((encV l).length : Int).toNat = r := by rw [Int.toNat_natCast]; exact List.drop_left' rfl
  have g : dec (encV l) = (l, 0, 0) := by rw [encV_forms h]; exact dec_enc ((gd_scal l).2 h)
  unfold readText
  rw [e, d, g, if_pos (by simp only [List.length_append]; omega)]
  exact if_pos rfl
theorem numB_byte (n : Int) : Bytes (numB n) := fun x hx => by
  simp only [numB, List.mem_cons, List.not_mem_nil, or_false] at hx
  rcases hx with rfl | rfl | rfl | rfl <;> omega
theorem encV_byte (l : List Int) : Bytes (encV l) := by
  by_cases h : scal l
  · rw [encV_forms h]; exact forms_byte l
  · unfold encV; rw [if_neg h]; exact fun x hx => by simp at hx
theorem Dec.Bytes.app {a b : List Int} (h1 : Bytes a) (h2 : Bytes b) : Bytes (a ++ b) := fun x hx => by
  rcases List.mem_append.1 hx with h | h
  · exact h1 x h
  · exact h2 x h
theorem RR.bind_assoc {α β γ : Type} (r : RR α) (f : α → List Int → RR β) (g : β → List Int → RR γ) : (r.bind f).bind g = r.bind fun a x => (f a x).bind g := by cases r <;> rfl
theorem RR.bind_okE {α β : Type} (a : α) (x : List Int) (f : α → List Int → RR β) : (RR.ok a x).bind f = f a x := rfl
theorem readNum_if (xs : List Int) : readNum xs = if xs.length < 4 then .bad 20 else if numR xs > 2147483647 then .bad 50 else .ok (numR xs) (xs.drop 4) := by
  unfold readNum
  (repeat' split) <;> first | rfl | (exfalso; omega)
def readChB (xs : List Int) : RR Ch := (readNum xs).bind fun a r => (readNum r).bind fun n r => (readText n r).bind fun g r => (readNum r).bind fun m r => (readText m r).bind fun c r => .ok ⟨a, g, c⟩ r
theorem readText_if (n : Int) (xs : List Int) : readText n xs = if (xs.length : Int) < n then .bad 20 else if (dec (xs.take n.toNat)).2.2 ≠ 0 then .bad (dec (xs.take n.toNat)).2.2 else .ok (dec (xs.take n.toNat)).1 (xs.drop n.toNat) := by
  unfold readText
  (repeat' split) <;> first | rfl | (exfalso; omega) | (exfalso; contradiction)
theorem ite_congr3 {α : Type} {c d : Prop} [Decidable c] [Decidable d] {a b b' : α} (h : c ↔ d) (hb : ¬ c → b = b') : (if c then a else b) = if d then a else b' := by
  by_cases q : c
  · rw [if_pos q, if_pos (h.1 q)]
  · rw [if_neg q, if_neg (fun z => q (h.2 z)), hb q]
theorem bind_if {α β : Type} {c : Prop} [Decidable c] {e : Int} {r : RR α} {f : α → List Int → RR β} : (if c then RR.bad e else r).bind f = if c then RR.bad e else r.bind f := by
  split <;> rfl
theorem readCh_eq {xs : List Int} (h : Bytes xs) : readCh xs = readChB xs := by
  have n1 := numR_nn (h.drop 4)
  have n2 := numR_nn (h.drop (8 + (numR (xs.drop 4)).toNat))
  unfold readCh readChB
  rw [readNum_if xs, bind_if]
  refine ite_congr3 Iff.rfl fun q1 => ?_
  rw [bind_if]
  refine ite_congr3 Iff.rfl fun q2 => ?_
  rw [RR.bind_okE, readNum_if, bind_if]
  simp only [List.length_drop, List.drop_drop]
  refine ite_congr3 (by omega) fun q3 => ?_
  rw [bind_if]
  refine ite_congr3 Iff.rfl fun q4 => ?_
  rw [RR.bind_okE, readText_if, bind_if]
  simp only [List.length_drop, List.drop_drop, Nat.reduceAdd]
  refine ite_congr3 (by omega) fun q5 => ?_
  rw [bind_if]
  refine ite_congr3 Iff.rfl fun q6 => ?_
  rw [RR.bind_okE, readNum_if, bind_if]
  simp only [List.length_drop, List.drop_drop]
  refine ite_congr3 (by omega) fun q7 => ?_
  rw [bind_if]
  refine ite_congr3 Iff.rfl fun q8 => ?_
  rw [RR.bind_okE, readText_if, bind_if]
  simp only [List.length_drop, List.drop_drop]
  refine ite_congr3 (by omega) fun q9 => ?_
  rw [bind_if]
  refine ite_congr3 Iff.rfl fun q10 => ?_
  rfl
theorem readN_eq (n : Nat) (xs : List Int) : readN (n + 1) xs = (readCh xs).bind fun c r => (readN n r).bind fun l r => .ok (c :: l) r := by
  rw [readN]
  cases readCh xs with
  | bad e => rfl
  | ok c r =>
    show (readN n r).pre [c] = (readN n r).bind _
    cases readN n r <;> rfl
/-- A state, read, but for the end. -/
def readSt0 (xs : List Int) : RR (Int × St) := (readNum xs).bind fun c r => (readNum r).bind fun n r => (readText n r).bind fun t r => (readChs r).bind fun u r => (readChs r).bind fun v r => .ok (c, ⟨t, u, v⟩) r
theorem readSt_eq (xs : List Int) : readSt xs = (readSt0 xs).bind fun p r => (readEnd r).bind fun _ r => .ok p r := by
  unfold readSt readSt0
  simp only [RR.bind_assoc, RR.bind_okE]
/-! ### forward -/
/-- What may be written of a change. -/
structure ChW (c : Ch) : Prop where
  at_ : isI c.at_ = true
  gone : scal c.gone
  came : scal c.came
  lgone : isI ((encV c.gone).length : Int) = true
  lcame : isI ((encV c.came).length : Int) = true
theorem chF_byte (c : Ch) : Bytes (chF c) := (numB_byte _).app (((numB_byte _).app (encV_byte _)).app ((numB_byte _).app (encV_byte _)))
theorem readCh_F {c : Ch} (h : ChW c) (r : List Int) (hr : Bytes r) : readCh (chF c ++ r) = .ok c r := by
  rw [readCh_eq ((chF_byte c).app hr)]
  unfold readChB chF pieceF
  simp only [List.append_assoc]
  rw [readNum_B h.at_, RR.bind_okE, readNum_B h.lgone, RR.bind_okE, readText_V h.gone, RR.bind_okE, readNum_B h.lcame, RR.bind_okE, readText_V h.came, RR.bind_okE]
theorem flat_byte : ∀ l : List Ch, Bytes (l.flatMap chF)
  | [] => fun x hx => by simp at hx
  | c :: l => by rw [List.flatMap_cons]; exact (chF_byte c).app (flat_byte l)
theorem readN_F : ∀ (l : List Ch) (r : List Int), (∀ c ∈ l, ChW c) → Bytes r → readN l.length (l.flatMap chF ++ r) = .ok l r
  | [], r, _, _ => rfl
  | c :: l, r, h, hr => by
    rw [List.length_cons, readN_eq, List.flatMap_cons, List.append_assoc, readCh_F (h c (by simp)) _ ((flat_byte l).app hr), RR.bind_okE, readN_F l r (fun c hc => h c (by simp [hc])) hr]
    rfl
theorem readChs_F {l : List Ch} (h : ∀ c ∈ l, ChW c) (hl : l.length ≤ 255) (r : List Int) (hr : Bytes r) : readChs (chsF l ++ r) = .ok l r := by
  unfold readChs chsF
  rw [if_neg (by simp)]
  have e : rd (((l.length : Int) % 256 :: l.flatMap chF) ++ r) 0 = (l.length : Int) % 256 := rfl
  have d : (((l.length : Int) % 256 :: l.flatMap chF) ++ r).drop 1 = l.flatMap chF ++ r := rfl
  rw [e, d, show ((l.length : Int) % 256).toNat = l.length by omega]
  exact readN_F l r h hr
theorem chsF_byte (l : List Ch) : Bytes (chsF l) := fun x hx => by
  rcases List.mem_cons.1 hx with rfl | h
  · omega
  · exact flat_byte l x h
/-- A state's bytes, plain. -/
def stB (n : Int) (s : St) : List Int := numB n ++ (pieceF s.text ++ (chsF s.undo ++ chsF s.redo))
theorem stB_byte (n : Int) (s : St) : Bytes (stB n s) := (numB_byte _).app (((numB_byte _).app (encV_byte _)).app ((chsF_byte _).app (chsF_byte _)))
/-- What may be written of a state. -/
structure StW (s : St) : Prop where
  text : scal s.text
  ltext : isI ((encV s.text).length : Int) = true
  undo : ∀ c ∈ s.undo, ChW c
  redo : ∀ c ∈ s.redo, ChW c
  ulen : s.undo.length ≤ 255
  rlen : s.redo.length ≤ 255
theorem readSt0_F {n : Int} {s : St} (hn : isI n = true) (h : StW s) (r : List Int) (hr : Bytes r) : readSt0 (stB n s ++ r) = .ok (n, s) r := by
  unfold readSt0 stB pieceF
  simp only [List.append_assoc]
  rw [readNum_B hn, RR.bind_okE, readNum_B h.ltext, RR.bind_okE, readText_V h.text, RR.bind_okE, readChs_F h.undo h.ulen _ ((chsF_byte _).app hr), RR.bind_okE, readChs_F h.redo h.rlen _ hr, RR.bind_okE]
theorem readSt_F {n : Int} {s : St} (hn : isI n = true) (h : StW s) : readSt (stB n s) = .ok (n, s) [] := by
  have := readSt0_F hn h [] (fun x hx => by simp at hx)
  rw [List.append_nil] at this
  rw [readSt_eq, this]
  rfl
/-- A reading takes a number of bytes, and looks at no more; of fewer it says that they are too few. -/
def Pre {α : Type} (R : List Int → RR α) : Prop := ∀ xs a r, R xs = .ok a r → Bytes xs → ∃ m, m ≤ xs.length ∧ r = xs.drop m ∧ (∀ k, k < m → R (xs.take k) = .bad 20) ∧ ∀ k, m ≤ k → R (xs.take k) = .ok a ((xs.drop m).take (k - m))
theorem Pre.bind {α β : Type} {R : List Int → RR α} {S : α → List Int → RR β} (h : Pre R) (h2 : ∀ a, Pre (S a)) : Pre fun xs => (R xs).bind S := by
  intro xs b s hx hb
  obtain ⟨a, r, q1, q2⟩ := RR.bind_ok hx
  obtain ⟨m, m1, m2, m3, m4⟩ := h xs a r q1 hb
  subst m2
  obtain ⟨n, n1, n2, n3, n4⟩ := h2 a _ b s q2 (hb.drop _)
  rw [List.length_drop] at n1
  refine ⟨m + n, by omega, by rw [n2, List.drop_drop], fun k hk => ?_, fun k hk => ?_⟩
  · show (R (xs.take k)).bind S = _
    by_cases c : k < m
    · rw [m3 k c]; rfl
    · rw [m4 k (by omega), RR.bind_okE, n3 _ (by omega)]
  · show (R (xs.take k)).bind S = _
    rw [m4 k (by omega), RR.bind_okE, n4 _ (by omega), List.drop_drop, show k - m - n = k - (m + n) by omega]
theorem Pre.congr {α : Type} {R S : List Int → RR α} (h : Pre S) (e : ∀ xs, Bytes xs → R xs = S xs) : Pre R := by
  intro xs a r hx hb
  rw [e xs hb] at hx
  obtain ⟨m, m1, m2, m3, m4⟩ := h xs a r hx hb
  exact ⟨m, m1, m2, fun k hk => by rw [e _ (hb.take k)]; exact m3 k hk, fun k hk => by rw [e _ (hb.take k)]; exact m4 k hk⟩
end Go.Proofs.YtdpflafjfkooeaaGreatDoorG
namespace Go.Proofs.YtdpflafjfkooeaaGreatDoorG
open Go Go.RowKit Go.Proofs
set_option linter.unusedSimpArgs false
set_option linter.unusedVariables false
def St.rx (s : St) (e : Int) : X := .tup [.agg [.v (.sl 1 (rn s.text)), .v (.sl 3 (chs s.undo)), .v (.sl 3 (chs s.redo))], .one (.v (.raw (.int .i64 e)))]
theorem DBA13 : type_of% (And.intro @rn_len (And.intro @chs_len (And.intro @chs_cnt (And.intro @cnt_snoc (And.intro @cut_snoc (And.intro @List.length_map.{0,0} (And.intro @cut_rn (And.intro @take_drop_len (And.intro @List.length_append.{0} (And.intro @List.length_take.{0} (And.intro @List.length_drop.{0} @Int.sub_zero))))))))))) := ⟨@rn_len, @chs_len, @chs_cnt, @cnt_snoc, @cut_snoc, @List.length_map.{0,0}, @cut_rn, @take_drop_len, @List.length_append.{0}, @List.length_take.{0}, @List.length_drop.{0}, @Int.sub_zero⟩
set_option maxRecDepth 10000 in
set_option maxHeartbeats 4000000 in
theorem apply_ok (hg : GoesOk) (s : St) (o : Opn) (hs : s.ok) (ho : o.ok) : CallOk Tryz.prog 19 [s.x, o.x] ((appF s o).1.rx (appF s o).2) [] false := by
  have he := effect_ok hg s o hs ho
  have hgd := fun c => eff_good (c := c) hs ho
  rcases hI : effF s o with ⟨c, e⟩
  rw [hI] at he
  have hst := hs
  obtain ⟨ht, hrr, hu, hd, hul, hdl⟩ := hs
  have hcu := copied_ok s.undo (by omega) (fun c hc => (hu c hc).small)
  have hcd := copied_ok s.redo (by omega) (fun c hc => (hd c hc).small)
  refine fn_ok' T_ok (orc_ok _) mixed Tryz.func19 rfl (by kernel_rfl) (lv [[2, 3, 4], [2, 3, 4, 6, 7], [2, 3, 4, 6, 7, 16], [4, 5, 1000004], [3, 4, 6, 8], [4, 6, 8, 31], [4, 8], [4, 8, 42], [4, 8], [4, 6, 8, 31, 47], [4, 8], [4, 6, 8, 64], [4, 8], [4, 5, 1000004]]) 83 rfl (by simp) rfl (by simp) ?_
  rcases hA : appF s o with ⟨r, e'⟩
  simp only [argsG, Nat.zero_add, Nat.reduceAdd, St.x, Opn.x]
  repeat' first
    | ((first
        | ((with_reducible refine vR_cons (by decide) ?_); generalize hk : KtR _ _ _ _ _ _ _ _ _ _ = k)
        | ((first
        | with_reducible refine vOps_cons' ?_
        | ((with_reducible apply orc_i); (focus (exact he; done)))) <;> generalize hk : Kt _ _ _ _ _ _ _ _ _ = k)) <;> (simp only [Tryz.f19, lv, E1, E2, E5, ET, T, mvB, bxB, sxB, rxB, fwd, fwds, inv, mOk, EB, simprocAttr, DBA13, Ch.inv, Ch.x, Ch.rx, Ch.rr, Opn.x, St.x, ← rn_app]; (try simp (disch := omega) only [wrap_in, Int.toNat_natCast, tv_rn, tv_ch0, tv_ch1, tv_ch2]); subst hk))
    | with_reducible first | refine Kt_p ?_ | refine Kt_i (by kernel_rfl) ?_ | refine Kr_f (by kernel_rfl) ?_
    | (with_reducible refine Kr_t ?_; simp only [List.length_append, List.length_cons, List.length_nil, Nat.reduceAdd, Nat.reduceSub, List.drop_succ_cons, List.drop_zero])
    | with_reducible first | refine vR_nil ?_ | refine KtR_i (by kernel_rfl) ?_ | refine KrR_i (by kernel_rfl) ?_ | refine vR_skip (by decide) ?_
    | ((with_reducible refine vB_i ?_ ?_) <;> intro _ <;> (first | (exfalso; omega) | (exact absurd trivial ‹¬True›) | (try dsimp only [])))
    | ((with_reducible refine vOps_nil' ?_); refine Kr_i (by kernel_rfl) ?_; generalize hk : plain _ _ = G; simp only [lv, E3, E2, E5, rawX, deadX, EB, simprocAttr, DBA13, Ch.inv, Ch.x, Ch.rx, Ch.rr, Opn.x, St.x, ← rn_app] at hk; subst hk)
    | with_reducible refine vSeq_i ?_
    | with_reducible first | refine vRegion_i (by kernel_rfl) ?_ | refine Kv_i ?_
    | ((with_reducible apply vStrK_i); (focus (rfl; done)))
    | ((with_reducible refine imp_i ?_); intro _)
    | with_reducible first | refine Ks_n ?_ | refine Ks_r ?_ | refine Ks_e ?_ | refine Kl_e ?_ | refine Kx_n ?_ | refine Kl_r ?_ | refine vRet_i ?_ | refine vSkip_i ?_ | refine vExit_i ?_ | refine vBlock_i ?_ | refine Ks_p ?_ | refine Kl_p ?_ | refine blk_p ?_ | exact Kb_p | refine vGoto_i ?_ | refine vLabel_i ?_ | refine Ks_g ?_ | refine Kl_g ?_ | refine blk_g ?_ | refine jmp_g ?_ | refine jmp_n ?_ | refine jmp_r ?_ | refine nog_n ?_ | refine nog_r ?_ | refine blk_n ?_ | refine blk_r ?_ | refine blk_e ?_ | refine blk_o (by decide) ?_ | refine cp_t ?_ | refine cp_f ?_
    | ((with_reducible apply vCond_x); (focus (simp only [lv, E1, E2, E5, ET, T, mvB, bxB, sxB, rxB, fwd, fwds, inv, mOk, EB, simprocAttr, DBA13, Ch.inv, Ch.x, Ch.rx, Ch.rr, Opn.x, St.x, ← rn_app]; with_reducible first | exact Eq.refl (bo true) | exact Eq.refl (bo false))))
    | ((with_reducible refine And.intro ?_ ?_); (focus (try omega)))
  · rename_i h0
    subst h0
    obtain ⟨g1, g2, g3⟩ := hgd c hI
    have hdn := done_ok s.text c g1.2.2.1 (by have := g1.2.2.2.1; have := g1.2.2.2.2.1; omega) (by have := g2.came; omega)
    have hi1 := inverse_ok c g2.small
    have hi2 := inverse_ok c.inv g2.inv.small
    have hu0 := eff_undo hI
    have hr0 := eff_redo hI
    repeat' first
      | ((first
          | ((with_reducible refine vR_cons (by decide) ?_); generalize hk : KtR _ _ _ _ _ _ _ _ _ _ = k)
          | ((first
          | with_reducible refine vOps_cons' ?_
          | ((with_reducible apply orc_i); (focus (exact hdn; done)))
          | ((with_reducible apply orc_i); (focus (exact hcu; done)))
          | ((with_reducible apply orc_i); (focus (exact hcd; done)))
          | ((with_reducible apply orc_i); (focus (exact hi1; done)))
          | ((with_reducible apply orc_i); (focus (exact hi2; done)))) <;> generalize hk : Kt _ _ _ _ _ _ _ _ _ = k)) <;> (simp only [Tryz.f19, lv, E1, E2, E5, ET, T, mvB, bxB, sxB, rxB, fwd, fwds, inv, mOk, EB, simprocAttr, DBA13, Ch.inv, Ch.x, Ch.rx, Ch.rr, Opn.x, St.x, ← rn_app]; (try simp (disch := omega) only [wrap_in, Int.toNat_natCast, tv_rn, tv_ch0, tv_ch1, tv_ch2]); subst hk))
      | with_reducible first | refine Kt_p ?_ | refine Kt_i (by kernel_rfl) ?_ | refine Kr_f (by kernel_rfl) ?_
      | (with_reducible refine Kr_t ?_; simp only [List.length_append, List.length_cons, List.length_nil, Nat.reduceAdd, Nat.reduceSub, List.drop_succ_cons, List.drop_zero])
      | with_reducible first | refine vR_nil ?_ | refine KtR_i (by kernel_rfl) ?_ | refine KrR_i (by kernel_rfl) ?_ | refine vR_skip (by decide) ?_
      | ((with_reducible refine vB_i ?_ ?_) <;> intro _ <;> (first | (exfalso; omega) | (exact absurd trivial ‹¬True›) | (try dsimp only [])))
      | ((with_reducible refine vOps_nil' ?_); refine Kr_i (by kernel_rfl) ?_; generalize hk : plain _ _ = G; simp only [lv, E3, E2, E5, rawX, deadX, EB, simprocAttr, DBA13, Ch.inv, Ch.x, Ch.rx, Ch.rr, Opn.x, St.x, ← rn_app] at hk; subst hk)
      | with_reducible refine vSeq_i ?_
      | with_reducible first | refine vRegion_i (by kernel_rfl) ?_ | refine Kv_i ?_
      | ((with_reducible apply vStrK_i); (focus (rfl; done)))
      | ((with_reducible refine imp_i ?_); intro _)
      | with_reducible first | refine Ks_n ?_ | refine Ks_r ?_ | refine Ks_e ?_ | refine Kl_e ?_ | refine Kx_n ?_ | refine Kl_r ?_ | refine vRet_i ?_ | refine vSkip_i ?_ | refine vExit_i ?_ | refine vBlock_i ?_ | refine Ks_p ?_ | refine Kl_p ?_ | refine blk_p ?_ | exact Kb_p | refine vGoto_i ?_ | refine vLabel_i ?_ | refine Ks_g ?_ | refine Kl_g ?_ | refine blk_g ?_ | refine jmp_g ?_ | refine jmp_n ?_ | refine jmp_r ?_ | refine nog_n ?_ | refine nog_r ?_ | refine blk_n ?_ | refine blk_r ?_ | refine blk_e ?_ | refine blk_o (by decide) ?_ | refine cp_t ?_ | refine cp_f ?_
      | ((with_reducible apply vCond_x); (focus (simp only [lv, E1, E2, E5, ET, T, mvB, bxB, sxB, rxB, fwd, fwds, inv, mOk, EB, simprocAttr, DBA13, Ch.inv, Ch.x, Ch.rx, Ch.rr, Opn.x, St.x, ← rn_app]; with_reducible first | exact Eq.refl (bo true) | exact Eq.refl (bo false))))
      | ((with_reducible refine And.intro ?_ ?_); (focus (try omega)))
    all_goals first
      | omega
      | (simp only [cnt, List.length_cons, List.length_nil]; omega)
      | skip
    all_goals
      unfold appF at hA
      rw [hI, if_neg (fun h => h rfl)] at hA
      (repeat' split at hA)
      all_goals first
        | (exfalso; first | contradiction | omega)
        | skip
    all_goals
      simp only [Prod.mk.injEq] at hA
      obtain ⟨rfl, rfl⟩ := hA
      refine Kf_r ?_
      simp only [Tryz.f19, E4, E3, E2, E5, rawX, deadX, ET, T, EB, simprocAttr, DBA13, Ch.inv, Ch.x, Ch.rx, Ch.rr, Opn.x, St.x, ← rn_app, St.rx, chs_snoc, chs_take, chs_drop, chs_nil]
    all_goals first
      | (rw [show ((s.undo.length : Int) - 1).toNat = s.undo.length - 1 by omega]; done)
      | (rw [show ((s.redo.length : Int) - 1).toNat = s.redo.length - 1 by omega]; done)
      | skip
    all_goals trace_state
  · refine Kf_r ?_
    rename_i h0
    unfold appF at hA
    rw [hI, if_pos h0] at hA
    simp only [Prod.mk.injEq] at hA
    obtain ⟨rfl, rfl⟩ := hA
    simp only [Tryz.f19, E4, E3, E2, E5, rawX, deadX, ET, T, EB, simprocAttr, DBA13, Ch.inv, Ch.x, Ch.rx, Ch.rr, Opn.x, St.x, ← rn_app, St.rx, rn_nil]
    rfl
end Go.Proofs.YtdpflafjfkooeaaGreatDoorG
namespace Go.Proofs.YtdpflafjfkooeaaGreatDoorG
open Go Go.RowKit Go.Proofs
set_option linter.unusedSimpArgs false
set_option linter.unusedVariables false
theorem eff_undo_val {s : St} {o : Opn} {c : Ch} (h : effF s o = (c, 0)) (hk : o.kind = 3) : s.undo.getD ((s.undo.length : Int) - 1).toNat noCh = c.inv := by
  have h0 := eff_zero h
  unfold effF at h
  rw [if_neg (by rw [h0]; exact fun h => h rfl), if_neg (by omega), if_neg (by omega), if_pos hk] at h
  split at h <;> simp only [Prod.mk.injEq] at h
  · rw [← h.1]; rfl
  · exfalso; omega
theorem eff_redo_val {s : St} {o : Opn} {c : Ch} (h : effF s o = (c, 0)) (hk : o.kind = 4) : s.redo.getD ((s.redo.length : Int) - 1).toNat noCh = c := by
  have h0 := eff_zero h
  unfold effF at h
  rw [if_neg (by rw [h0]; exact fun h => h rfl), if_neg (by omega), if_neg (by omega), if_neg (by omega), if_pos hk] at h
  split at h <;> simp only [Prod.mk.injEq] at h
  · exact h.1
  · exfalso; omega
theorem DBA15 : type_of% (And.intro @rn_len (And.intro @chs_len (And.intro @chs_cnt (And.intro @cnt_snoc (And.intro @cut_snoc (And.intro @List.length_map.{0,0} (And.intro @cut_rn (And.intro @take_drop_len (And.intro @List.length_append.{0} (And.intro @List.length_take.{0} (And.intro @List.length_drop.{0} @Int.sub_zero))))))))))) := ⟨@rn_len, @chs_len, @chs_cnt, @cnt_snoc, @cut_snoc, @List.length_map.{0,0}, @cut_rn, @take_drop_len, @List.length_append.{0}, @List.length_take.{0}, @List.length_drop.{0}, @Int.sub_zero⟩
set_option maxRecDepth 10000 in
set_option maxHeartbeats 4000000 in
theorem refApply_ok (s : St) (o : Opn) (hs : s.ok) (ho : o.ok) : CallOk Tryz.prog 24 [s.x, o.x] ((appF s o).1.rx (appF s o).2) [] false := by
  have he := refEffect_ok s o hs ho
  have hgd := fun c => eff_good (c := c) hs ho
  rcases hI : effF s o with ⟨c, e⟩
  rw [hI] at he
  have hst := hs
  obtain ⟨ht, hrr, hu, hd, hul, hdl⟩ := hs
  refine fn_ok' T_ok (orc_ok _) mixed Tryz.func24 rfl (by kernel_rfl) (lv [[2, 3, 4], [2, 3, 4, 6, 7], [2, 3, 4, 6, 7, 18], [4, 5, 1000004], [2, 3, 4, 6, 8], [2, 3, 4, 6, 8], [2, 3, 4, 6, 8, 9], [3, 4, 6, 8, 9, 10], [4, 6, 8, 9, 10, 38], [4, 8, 9], [4, 8, 9, 10], [4, 8, 9, 10, 45], [4, 8, 9, 10], [4, 6, 8, 9, 10, 38, 51], [4, 8, 9, 10], [4, 8, 9, 10], [4, 6, 8, 9, 10, 67], [4, 8, 9, 10], [4, 8, 9, 10], [4, 8, 10], [4, 8], [4, 5, 1000004]]) 88 rfl (by simp) rfl (by simp) ?_
  rcases hA : appF s o with ⟨r, e'⟩
  simp only [argsG, Nat.zero_add, Nat.reduceAdd, St.x, Opn.x]
  repeat' first
    | ((first
        | ((with_reducible refine vR_cons (by decide) ?_); generalize hk : KtR _ _ _ _ _ _ _ _ _ _ = k)
        | ((first
        | with_reducible refine vOps_cons' ?_
        | ((with_reducible apply orc_i); (focus (exact he; done)))) <;> generalize hk : Kt _ _ _ _ _ _ _ _ _ = k)) <;> (simp only [Tryz.f24, lv, E1, E2, E5, ET, T, mvB, bxB, sxB, rxB, fwd, fwds, inv, mOk, EB, simprocAttr, DBA15, Ch.inv, Ch.x, Ch.rx, Ch.rr, Opn.x, St.x, ← rn_app]; (try simp (disch := omega) only [wrap_in, Int.toNat_natCast, tv_rn, tv_ch0, tv_ch1, tv_ch2]); subst hk))
    | with_reducible first | refine Kt_p ?_ | refine Kt_i (by kernel_rfl) ?_ | refine Kr_f (by kernel_rfl) ?_
    | (with_reducible refine Kr_t ?_; simp only [List.length_append, List.length_cons, List.length_nil, Nat.reduceAdd, Nat.reduceSub, List.drop_succ_cons, List.drop_zero])
    | with_reducible first | refine vR_nil ?_ | refine KtR_i (by kernel_rfl) ?_ | refine KrR_i (by kernel_rfl) ?_ | refine vR_skip (by decide) ?_
    | ((with_reducible refine vB_i ?_ ?_) <;> intro _ <;> (first | (exfalso; omega) | (exact absurd trivial ‹¬True›) | (try dsimp only [])))
    | ((with_reducible refine vOps_nil' ?_); refine Kr_i (by kernel_rfl) ?_; generalize hk : plain _ _ = G; simp only [lv, E3, E2, E5, rawX, deadX, EB, simprocAttr, DBA15, Ch.inv, Ch.x, Ch.rx, Ch.rr, Opn.x, St.x, ← rn_app] at hk; subst hk)
    | with_reducible refine vSeq_i ?_
    | with_reducible first | refine vRegion_i (by kernel_rfl) ?_ | refine Kv_i ?_
    | ((with_reducible apply vStrK_i); (focus (rfl; done)))
    | ((with_reducible refine imp_i ?_); intro _)
    | with_reducible first | refine Ks_n ?_ | refine Ks_r ?_ | refine Ks_e ?_ | refine Kl_e ?_ | refine Kx_n ?_ | refine Kl_r ?_ | refine vRet_i ?_ | refine vSkip_i ?_ | refine vExit_i ?_ | refine vBlock_i ?_ | refine Ks_p ?_ | refine Kl_p ?_ | refine blk_p ?_ | exact Kb_p | refine vGoto_i ?_ | refine vLabel_i ?_ | refine Ks_g ?_ | refine Kl_g ?_ | refine blk_g ?_ | refine jmp_g ?_ | refine jmp_n ?_ | refine jmp_r ?_ | refine nog_n ?_ | refine nog_r ?_ | refine blk_n ?_ | refine blk_r ?_ | refine blk_e ?_ | refine blk_o (by decide) ?_ | refine cp_t ?_ | refine cp_f ?_
    | ((with_reducible apply vCond_x); (focus (simp only [lv, E1, E2, E5, ET, T, mvB, bxB, sxB, rxB, fwd, fwds, inv, mOk, EB, simprocAttr, DBA15, Ch.inv, Ch.x, Ch.rx, Ch.rr, Opn.x, St.x, ← rn_app]; with_reducible first | exact Eq.refl (bo true) | exact Eq.refl (bo false))))
    | ((with_reducible refine And.intro ?_ ?_); (focus (try omega)))
  · rename_i h0
    subst h0
    obtain ⟨g1, g2, g3⟩ := hgd c hI
    have hdn := refDone_ok' s.text c ht g2
    rw [if_pos g1, decide_eq_true ⟨g1, g3⟩] at hdn
    have hu0 := eff_undo hI
    have hr0 := eff_redo hI
    have hz := right_zero (eff_zero hI)
    have hz2 := hz.2.1
    repeat' first
      | ((first
          | ((with_reducible refine vR_cons (by decide) ?_); generalize hk : KtR _ _ _ _ _ _ _ _ _ _ = k)
          | ((first
          | with_reducible refine vOps_cons' ?_
          | ((with_reducible apply orc_i); (focus (exact hdn; done)))) <;> generalize hk : Kt _ _ _ _ _ _ _ _ _ = k)) <;> (simp only [Tryz.f24, lv, E1, E2, E5, ET, T, mvB, bxB, sxB, rxB, fwd, fwds, inv, mOk, EB, simprocAttr, DBA15, Ch.inv, Ch.x, Ch.rx, Ch.rr, Opn.x, St.x, ← rn_app]; (try simp (disch := omega) only [wrap_in, Int.toNat_natCast, tv_rn, tv_ch0, tv_ch1, tv_ch2]); subst hk))
      | with_reducible first | refine Kt_p ?_ | refine Kt_i (by kernel_rfl) ?_ | refine Kr_f (by kernel_rfl) ?_
      | (with_reducible refine Kr_t ?_; simp only [List.length_append, List.length_cons, List.length_nil, Nat.reduceAdd, Nat.reduceSub, List.drop_succ_cons, List.drop_zero])
      | with_reducible first | refine vR_nil ?_ | refine KtR_i (by kernel_rfl) ?_ | refine KrR_i (by kernel_rfl) ?_ | refine vR_skip (by decide) ?_
      | ((with_reducible refine vB_i ?_ ?_) <;> intro _ <;> (first | (exfalso; omega) | (exact absurd trivial ‹¬True›) | (try dsimp only [])))
      | ((with_reducible refine vOps_nil' ?_); refine Kr_i (by kernel_rfl) ?_; generalize hk : plain _ _ = G; simp only [lv, E3, E2, E5, rawX, deadX, EB, simprocAttr, DBA15, Ch.inv, Ch.x, Ch.rx, Ch.rr, Opn.x, St.x, ← rn_app] at hk; subst hk)
      | with_reducible refine vSeq_i ?_
      | with_reducible first | refine vRegion_i (by kernel_rfl) ?_ | refine Kv_i ?_
      | ((with_reducible apply vStrK_i); (focus (rfl; done)))
      | ((with_reducible refine imp_i ?_); intro _)
      | with_reducible first | refine Ks_n ?_ | refine Ks_r ?_ | refine Ks_e ?_ | refine Kl_e ?_ | refine Kx_n ?_ | refine Kl_r ?_ | refine vRet_i ?_ | refine vSkip_i ?_ | refine vExit_i ?_ | refine vBlock_i ?_ | refine Ks_p ?_ | refine Kl_p ?_ | refine blk_p ?_ | exact Kb_p | refine vGoto_i ?_ | refine vLabel_i ?_ | refine Ks_g ?_ | refine Kl_g ?_ | refine blk_g ?_ | refine jmp_g ?_ | refine jmp_n ?_ | refine jmp_r ?_ | refine nog_n ?_ | refine nog_r ?_ | refine blk_n ?_ | refine blk_r ?_ | refine blk_e ?_ | refine blk_o (by decide) ?_ | refine cp_t ?_ | refine cp_f ?_
      | ((with_reducible apply vCond_x); (focus (simp only [lv, E1, E2, E5, ET, T, mvB, bxB, sxB, rxB, fwd, fwds, inv, mOk, EB, simprocAttr, DBA15, Ch.inv, Ch.x, Ch.rx, Ch.rr, Opn.x, St.x, ← rn_app]; with_reducible first | exact Eq.refl (bo true) | exact Eq.refl (bo false))))
      | ((with_reducible refine And.intro ?_ ?_); (focus (try omega)))
    all_goals first
      | omega
      | (simp only [cnt, List.length_cons, List.length_nil]; omega)
      | skip
    all_goals
      unfold appF at hA
      rw [hI, if_neg (fun h => h rfl)] at hA
      (repeat' split at hA)
      all_goals first
        | (exfalso; first | contradiction | omega)
        | skip
    all_goals
      simp only [Prod.mk.injEq] at hA
      obtain ⟨rfl, rfl⟩ := hA
      refine Kf_r ?_
      simp only [Tryz.f24, E4, E3, E2, E5, rawX, deadX, ET, T, EB, simprocAttr, DBA15, Ch.inv, Ch.x, Ch.rx, Ch.rr, Opn.x, St.x, ← rn_app, St.rx, chs_snoc, chs_take, chs_drop, chs_nil]
    all_goals first
      | (rw [eff_undo_val hI (by assumption), show ((s.undo.length : Int) - 1).toNat = s.undo.length - 1 by omega]; rfl)
      | (rw [eff_redo_val hI (by assumption), show ((s.redo.length : Int) - 1).toNat = s.redo.length - 1 by omega]; done)
      | (rw [show ((s.undo.length + 1 : Nat) : Int) - 16 = 1 by omega, cut_snoc]; done)
  · refine Kf_r ?_
    rename_i h0
    unfold appF at hA
    rw [hI, if_pos h0] at hA
    simp only [Prod.mk.injEq] at hA
    obtain ⟨rfl, rfl⟩ := hA
    simp only [Tryz.f24, E4, E3, E2, E5, rawX, deadX, ET, T, EB, simprocAttr, DBA15, Ch.inv, Ch.x, Ch.rx, Ch.rr, Opn.x, St.x, ← rn_app, St.rx, rn_nil]
    rfl
end Go.Proofs.YtdpflafjfkooeaaGreatDoorG
namespace Go.Proofs.YtdpflafjfkooeaaGreatDoorG
open Go Go.RowKit Go.Proofs
set_option linter.unusedSimpArgs false
set_option linter.unusedVariables false
theorem Ch.eq_iff {a b : Ch} : a = b ↔ a.at_ = b.at_ ∧ a.gone = b.gone ∧ a.came = b.came := by
  cases a; cases b; simp
theorem DBA14 : type_of% (And.intro @rn_len (And.intro @chs_len (And.intro @chs_cnt @List.length_map.{0,0}))) := ⟨@rn_len, @chs_len, @chs_cnt, @List.length_map.{0,0}⟩
set_option maxRecDepth 10000 in
set_option maxHeartbeats 4000000 in
theorem sameCh_ok (a b : Ch) (ha : a.small) (hB : b.small) : CallOk Tryz.prog 44 [a.x, b.x] (bo (decide (a = b))) [] true := by
  refine fn_ok' T_ok (orc_ok _) mixed Tryz.func44 rfl (by kernel_rfl) (lv [[2, 3], [4]]) 24 rfl (by simp) rfl (by simp [X.all, PX.all, TV.rawR, SV.isRaw]) ?_
  simp only [argsG, Nat.zero_add, Nat.reduceAdd, Ch.x]
  repeat' first
    | ((first
        | ((with_reducible refine vR_cons (by decide) ?_); generalize hk : KtR _ _ _ _ _ _ _ _ _ _ = k)
        | ((first
        | with_reducible refine vOps_cons' ?_
        | ((with_reducible apply orc_b); (focus (with_reducible exact same_ok _ _ ha.1 hB.1; done)); (all_goals (intro hb; (try simp only [decide_eq_true_eq, decide_eq_false_iff_not, Bool.not_eq_true', Bool.not_eq_false', Bool.and_eq_true, Decidable.not_not] at hb))))
        | ((with_reducible apply orc_b); (focus (with_reducible exact same_ok _ _ ha.2 hB.2; done)); (all_goals (intro hb; (try simp only [decide_eq_true_eq, decide_eq_false_iff_not, Bool.not_eq_true', Bool.not_eq_false', Bool.and_eq_true, Decidable.not_not] at hb))))) <;> generalize hk : Kt _ _ _ _ _ _ _ _ _ = k)) <;> (simp only [Tryz.f44, lv, E1, E2, E5, ET, T, mvB, bxB, sxB, rxB, fwd, fwds, inv, mOk, EB, simprocAttr, DBA14, Ch.x, St.x]; (try simp (disch := omega) only [wrap_in, Int.toNat_natCast, tv_rn, tv_ch0, tv_ch1, tv_ch2]); subst hk))
    | with_reducible first | refine Kt_p ?_ | refine Kt_i (by kernel_rfl) ?_ | refine Kr_f (by kernel_rfl) ?_
    | (with_reducible refine Kr_t ?_; simp only [List.length_append, List.length_cons, List.length_nil, Nat.reduceAdd, Nat.reduceSub, List.drop_succ_cons, List.drop_zero])
    | with_reducible first | refine vR_nil ?_ | refine KtR_i (by kernel_rfl) ?_ | refine KrR_i (by kernel_rfl) ?_ | refine vR_skip (by decide) ?_
    | ((with_reducible refine vB_i ?_ ?_) <;> intro _ <;> (first | (exfalso; omega) | (exact absurd trivial ‹¬True›) | (try dsimp only [])))
    | ((with_reducible refine vOps_nil' ?_); refine Kr_i (by kernel_rfl) ?_; generalize hk : plain _ _ = G; simp only [lv, E3, E2, E5, rawX, deadX, EB, simprocAttr, DBA14, Ch.x, St.x] at hk; subst hk)
    | with_reducible refine vSeq_i ?_
    | with_reducible first | refine vRegion_i (by kernel_rfl) ?_ | refine Kv_i ?_
    | ((with_reducible apply vStrK_i); (focus (rfl; done)))
    | ((with_reducible refine imp_i ?_); intro _)
    | with_reducible first | refine Ks_n ?_ | refine Ks_r ?_ | refine Ks_e ?_ | refine Kl_e ?_ | refine Kx_n ?_ | refine Kl_r ?_ | refine vRet_i ?_ | refine vSkip_i ?_ | refine vExit_i ?_ | refine vBlock_i ?_ | refine Ks_p ?_ | refine Kl_p ?_ | refine blk_p ?_ | exact Kb_p | refine vGoto_i ?_ | refine vLabel_i ?_ | refine Ks_g ?_ | refine Kl_g ?_ | refine blk_g ?_ | refine jmp_g ?_ | refine jmp_n ?_ | refine jmp_r ?_ | refine nog_n ?_ | refine nog_r ?_ | refine blk_n ?_ | refine blk_r ?_ | refine blk_e ?_ | refine blk_o (by decide) ?_ | refine cp_t ?_ | refine cp_f ?_
    | ((with_reducible apply vCond_x); (focus (simp only [lv, E1, E2, E5, ET, T, mvB, bxB, sxB, rxB, fwd, fwds, inv, mOk, EB, simprocAttr, DBA14, Ch.x, St.x]; with_reducible first | exact Eq.refl (bo true) | exact Eq.refl (bo false))))
    | ((with_reducible refine And.intro ?_ ?_); (focus (try omega)))
  all_goals
    refine Kf_r ?_
    simp only [Tryz.f44, E4, E3, E2, E5, rawX, deadX, ET, T, EB, simprocAttr, DBA14, Ch.x, St.x, X.p.injEq, X.tup.injEq, PX.one.injEq, PX.agg.injEq, TV.v.injEq, TV.sr.injEq, SV.raw.injEq, SV.sl.injEq, Value.bool.injEq, Value.int.injEq, List.cons.injEq, Prod.mk.injEq, true_and, and_true, and_self]
    symm
    simp only [decide_eq_true_eq, decide_eq_false_iff_not, Ch.eq_iff]
    simp_all
theorem eq_of_getDc {a b : List Ch} (hl : a.length = b.length) (h : ∀ i, i < a.length → a.getD i noCh = b.getD i noCh) : a = b := by
  refine List.ext_getElem hl fun i h1 h2 => ?_
  have := h i h1
  simpa [List.getD, List.getElem?_eq_getElem h1, List.getElem?_eq_getElem h2] using this
set_option maxRecDepth 10000 in
set_option maxHeartbeats 4000000 in
theorem changes_ok (a b : List Ch) (ha : a.length ≤ 2000000) (hb : b.length ≤ 2000000) (ha1 : ∀ c ∈ a, c.small) (hb1 : ∀ c ∈ b, c.small) : CallOk Tryz.prog 29 [sln 3 (chs a), sln 3 (chs b)] (bo (decide (a = b))) [] true := by
  refine fn_ok' T_ok (orc_ok _) mixed Tryz.func29 rfl (by kernel_rfl) (lv [[0, 1], [0, 1, 10], [4], [0, 1, 5], [0, 1, 5, 14], [0, 1, 5], [0, 1, 5, 26], [4], [4]]) 27 rfl (by simp) rfl (by simp [X.all, PX.all, TV.rawR, SV.isRaw]) ?_
  simp only [argsG, Nat.zero_add, Nat.reduceAdd]
  repeat' first
    | ((first
        | ((with_reducible refine vR_cons (by decide) ?_); generalize hk : KtR _ _ _ _ _ _ _ _ _ _ = k)
        | ((first
        | with_reducible refine vOps_cons' ?_) <;> generalize hk : Kt _ _ _ _ _ _ _ _ _ = k)) <;> (simp only [Tryz.f29, lv, E1, E2, E5, ET, T, mvB, bxB, sxB, rxB, fwd, fwds, inv, mOk, EB, simprocAttr, DBA14, Ch.x, St.x]; (try simp (disch := omega) only [wrap_in, Int.toNat_natCast, tv_rn, tv_ch0, tv_ch1, tv_ch2]); subst hk))
    | with_reducible first | refine Kt_p ?_ | refine Kt_i (by kernel_rfl) ?_ | refine Kr_f (by kernel_rfl) ?_
    | (with_reducible refine Kr_t ?_; simp only [List.length_append, List.length_cons, List.length_nil, Nat.reduceAdd, Nat.reduceSub, List.drop_succ_cons, List.drop_zero])
    | with_reducible first | refine vR_nil ?_ | refine KtR_i (by kernel_rfl) ?_ | refine KrR_i (by kernel_rfl) ?_ | refine vR_skip (by decide) ?_
    | ((with_reducible refine vB_i ?_ ?_) <;> intro _ <;> (first | (exfalso; omega) | (exact absurd trivial ‹¬True›) | (try dsimp only [])))
    | ((with_reducible refine vOps_nil' ?_); refine Kr_i (by kernel_rfl) ?_; generalize hk : plain _ _ = G; simp only [lv, E3, E2, E5, rawX, deadX, EB, simprocAttr, DBA14, Ch.x, St.x] at hk; subst hk)
    | with_reducible refine vSeq_i ?_
    | with_reducible first | refine vRegion_i (by kernel_rfl) ?_ | refine Kv_i ?_
    | ((with_reducible apply vStrK_i); (focus (rfl; done)))
    | ((with_reducible refine imp_i ?_); intro _)
    | with_reducible first | refine Ks_n ?_ | refine Ks_r ?_ | refine Ks_e ?_ | refine Kl_e ?_ | refine Kx_n ?_ | refine Kl_r ?_ | refine vRet_i ?_ | refine vSkip_i ?_ | refine vExit_i ?_ | refine vBlock_i ?_ | refine Ks_p ?_ | refine Kl_p ?_ | refine blk_p ?_ | exact Kb_p | refine vGoto_i ?_ | refine vLabel_i ?_ | refine Ks_g ?_ | refine Kl_g ?_ | refine blk_g ?_ | refine jmp_g ?_ | refine jmp_n ?_ | refine jmp_r ?_ | refine nog_n ?_ | refine nog_r ?_ | refine blk_n ?_ | refine blk_r ?_ | refine blk_e ?_ | refine blk_o (by decide) ?_ | refine cp_t ?_ | refine cp_f ?_
    | ((with_reducible apply vCond_x); (focus (simp only [lv, E1, E2, E5, ET, T, mvB, bxB, sxB, rxB, fwd, fwds, inv, mOk, EB, simprocAttr, DBA14, Ch.x, St.x]; with_reducible first | exact Eq.refl (bo true) | exact Eq.refl (bo false))))
    | ((with_reducible refine And.intro ?_ ?_); (focus (try omega)))
  · rename_i hc
    have hc' : a.length = b.length := by omega
    refine vLoop_s (fun k : Nat => [(.t 0, .t (sln 3 (chs a))), (.t 1, .t (sln 3 (chs b))), (.t 5, .t (i64 k))]) (fun k => k ≤ a.length ∧ ∀ i, i < k → a.getD i noCh = b.getD i noCh) (fun k => a.length - k) 0 ⟨by omega, by omega⟩ rfl ?_
    rintro k ⟨hk, hlt⟩
    repeat' first
      | ((first
          | ((with_reducible refine vR_cons (by decide) ?_); generalize hk : KtR _ _ _ _ _ _ _ _ _ _ = k)
          | ((first
          | with_reducible refine vOps_cons' ?_
          | ((with_reducible apply orc_b); (focus (exact sameCh_ok (a.getD k noCh) (b.getD k noCh) (ha1 _ (mem_getD (by omega))) (hb1 _ (mem_getD (by omega))); done)); (all_goals (intro hb; (try simp only [decide_eq_true_eq, decide_eq_false_iff_not, Bool.not_eq_true', Bool.not_eq_false', Bool.and_eq_true, Decidable.not_not] at hb))))) <;> generalize hk : Kt _ _ _ _ _ _ _ _ _ = k)) <;> (simp only [Tryz.f29, lv, E1, E2, E5, ET, T, mvB, bxB, sxB, rxB, fwd, fwds, inv, mOk, EB, simprocAttr, DBA14, Ch.x, St.x]; (try simp (disch := omega) only [wrap_in, Int.toNat_natCast, tv_rn, tv_ch0, tv_ch1, tv_ch2]); subst hk))
      | with_reducible first | refine Kt_p ?_ | refine Kt_i (by kernel_rfl) ?_ | refine Kr_f (by kernel_rfl) ?_
      | (with_reducible refine Kr_t ?_; simp only [List.length_append, List.length_cons, List.length_nil, Nat.reduceAdd, Nat.reduceSub, List.drop_succ_cons, List.drop_zero])
      | with_reducible first | refine vR_nil ?_ | refine KtR_i (by kernel_rfl) ?_ | refine KrR_i (by kernel_rfl) ?_ | refine vR_skip (by decide) ?_
      | ((with_reducible refine vB_i ?_ ?_) <;> intro _ <;> (first | (exfalso; omega) | (exact absurd trivial ‹¬True›) | (try dsimp only [])))
      | ((with_reducible refine vOps_nil' ?_); refine Kr_i (by kernel_rfl) ?_; generalize hk : plain _ _ = G; simp only [lv, E3, E2, E5, rawX, deadX, EB, simprocAttr, DBA14, Ch.x, St.x] at hk; subst hk)
      | with_reducible refine vSeq_i ?_
      | with_reducible first | refine vRegion_i (by kernel_rfl) ?_ | refine Kv_i ?_
      | ((with_reducible apply vStrK_i); (focus (rfl; done)))
      | ((with_reducible refine imp_i ?_); intro _)
      | with_reducible first | refine Ks_n ?_ | refine Ks_r ?_ | refine Ks_e ?_ | refine Kl_e ?_ | refine Kx_n ?_ | refine Kl_r ?_ | refine vRet_i ?_ | refine vSkip_i ?_ | refine vExit_i ?_ | refine vBlock_i ?_ | refine Ks_p ?_ | refine Kl_p ?_ | refine blk_p ?_ | exact Kb_p | refine vGoto_i ?_ | refine vLabel_i ?_ | refine Ks_g ?_ | refine Kl_g ?_ | refine blk_g ?_ | refine jmp_g ?_ | refine jmp_n ?_ | refine jmp_r ?_ | refine nog_n ?_ | refine nog_r ?_ | refine blk_n ?_ | refine blk_r ?_ | refine blk_e ?_ | refine blk_o (by decide) ?_ | refine cp_t ?_ | refine cp_f ?_
      | ((with_reducible apply vCond_x); (focus (simp only [lv, E1, E2, E5, ET, T, mvB, bxB, sxB, rxB, fwd, fwds, inv, mOk, EB, simprocAttr, DBA14, Ch.x, St.x]; with_reducible first | exact Eq.refl (bo true) | exact Eq.refl (bo false))))
      | ((with_reducible refine And.intro ?_ ?_); (focus (try omega)))
    · exact Kl_n ⟨k + 1, ⟨by omega, fun i hi => by rcases Nat.lt_or_eq_of_le (Nat.le_of_lt_succ hi) with h1 | h1; exact hlt i h1; exact h1 ▸ hb⟩, by omega, by simp only [Int.natCast_add, Int.natCast_one]⟩
    · refine Kf_r ?_
      simp only [Tryz.f29, E4, E3, E2, E5, rawX, deadX, ET, T, EB, simprocAttr, DBA14, Ch.x, St.x, X.p.injEq, X.tup.injEq, PX.one.injEq, PX.agg.injEq, TV.v.injEq, TV.sr.injEq, SV.raw.injEq, SV.sl.injEq, Value.bool.injEq, Value.int.injEq, List.cons.injEq, Prod.mk.injEq, true_and, and_true, and_self]
      symm; simp only [decide_eq_false_iff_not]
      intro e; subst e; exact hb rfl
    · refine Kf_r ?_
      simp only [Tryz.f29, E4, E3, E2, E5, rawX, deadX, ET, T, EB, simprocAttr, DBA14, Ch.x, St.x, X.p.injEq, X.tup.injEq, PX.one.injEq, PX.agg.injEq, TV.v.injEq, TV.sr.injEq, SV.raw.injEq, SV.sl.injEq, Value.bool.injEq, Value.int.injEq, List.cons.injEq, Prod.mk.injEq, true_and, and_true, and_self]
      symm; simp only [decide_eq_true_eq]
      exact eq_of_getDc hc' fun i hi => hlt i (by omega)
  · refine Kf_r ?_
    simp only [Tryz.f29, E4, E3, E2, E5, rawX, deadX, ET, T, EB, simprocAttr, DBA14, Ch.x, St.x, X.p.injEq, X.tup.injEq, PX.one.injEq, PX.agg.injEq, TV.v.injEq, TV.sr.injEq, SV.raw.injEq, SV.sl.injEq, Value.bool.injEq, Value.int.injEq, List.cons.injEq, Prod.mk.injEq, true_and, and_true, and_self]
    rename_i hc
    symm; simp only [decide_eq_false_iff_not]
    intro e; subst e; exact hc rfl
theorem St.eq_iff {a b : St} : a = b ↔ a.text = b.text ∧ a.undo = b.undo ∧ a.redo = b.redo := by
  cases a; cases b; simp
structure St.small (s : St) : Prop where
  text : s.text.length ≤ 2000000
  undo : ∀ c ∈ s.undo, c.small
  redo : ∀ c ∈ s.redo, c.small
  ulen : s.undo.length ≤ 2000000
  rlen : s.redo.length ≤ 2000000
deriving instance DecidableEq for St
set_option maxRecDepth 10000 in
set_option maxHeartbeats 4000000 in
theorem sameSt_ok (a b : St) (ha : a.small) (hB : b.small) : CallOk Tryz.prog 12 [a.x, b.x] (bo (decide (a = b))) [] true := by
  refine fn_ok' T_ok (orc_ok _) mixed Tryz.func12 rfl (by kernel_rfl) (lv [[2, 3], [4]]) 24 rfl (by simp) rfl (by simp [X.all, PX.all, TV.rawR, SV.isRaw]) ?_
  simp only [argsG, Nat.zero_add, Nat.reduceAdd, St.x]
  repeat' first
    | ((first
        | ((with_reducible refine vR_cons (by decide) ?_); generalize hk : KtR _ _ _ _ _ _ _ _ _ _ = k)
        | ((first
        | with_reducible refine vOps_cons' ?_
        | ((with_reducible apply orc_b); (focus (with_reducible exact same_ok _ _ ha.text hB.text; done)); (all_goals (intro hb; (try simp only [decide_eq_true_eq, decide_eq_false_iff_not, Bool.not_eq_true', Bool.not_eq_false', Bool.and_eq_true, Decidable.not_not] at hb))))
        | ((with_reducible apply orc_b); (focus (with_reducible exact changes_ok _ _ ha.ulen hB.ulen ha.undo hB.undo; done)); (all_goals (intro hb; (try simp only [decide_eq_true_eq, decide_eq_false_iff_not, Bool.not_eq_true', Bool.not_eq_false', Bool.and_eq_true, Decidable.not_not] at hb))))
        | ((with_reducible apply orc_b); (focus (with_reducible exact changes_ok _ _ ha.rlen hB.rlen ha.redo hB.redo; done)); (all_goals (intro hb; (try simp only [decide_eq_true_eq, decide_eq_false_iff_not, Bool.not_eq_true', Bool.not_eq_false', Bool.and_eq_true, Decidable.not_not] at hb))))) <;> generalize hk : Kt _ _ _ _ _ _ _ _ _ = k)) <;> (simp only [Tryz.f12, lv, E1, E2, E5, ET, T, mvB, bxB, sxB, rxB, fwd, fwds, inv, mOk, EB, simprocAttr, DBA14, Ch.x, St.x]; (try simp (disch := omega) only [wrap_in, Int.toNat_natCast, tv_rn, tv_ch0, tv_ch1, tv_ch2]); subst hk))
    | with_reducible first | refine Kt_p ?_ | refine Kt_i (by kernel_rfl) ?_ | refine Kr_f (by kernel_rfl) ?_
    | (with_reducible refine Kr_t ?_; simp only [List.length_append, List.length_cons, List.length_nil, Nat.reduceAdd, Nat.reduceSub, List.drop_succ_cons, List.drop_zero])
    | with_reducible first | refine vR_nil ?_ | refine KtR_i (by kernel_rfl) ?_ | refine KrR_i (by kernel_rfl) ?_ | refine vR_skip (by decide) ?_
    | ((with_reducible refine vB_i ?_ ?_) <;> intro _ <;> (first | (exfalso; omega) | (exact absurd trivial ‹¬True›) | (try dsimp only [])))
    | ((with_reducible refine vOps_nil' ?_); refine Kr_i (by kernel_rfl) ?_; generalize hk : plain _ _ = G; simp only [lv, E3, E2, E5, rawX, deadX, EB, simprocAttr, DBA14, Ch.x, St.x] at hk; subst hk)
    | with_reducible refine vSeq_i ?_
    | with_reducible first | refine vRegion_i (by kernel_rfl) ?_ | refine Kv_i ?_
    | ((with_reducible apply vStrK_i); (focus (rfl; done)))
    | ((with_reducible refine imp_i ?_); intro _)
    | with_reducible first | refine Ks_n ?_ | refine Ks_r ?_ | refine Ks_e ?_ | refine Kl_e ?_ | refine Kx_n ?_ | refine Kl_r ?_ | refine vRet_i ?_ | refine vSkip_i ?_ | refine vExit_i ?_ | refine vBlock_i ?_ | refine Ks_p ?_ | refine Kl_p ?_ | refine blk_p ?_ | exact Kb_p | refine vGoto_i ?_ | refine vLabel_i ?_ | refine Ks_g ?_ | refine Kl_g ?_ | refine blk_g ?_ | refine jmp_g ?_ | refine jmp_n ?_ | refine jmp_r ?_ | refine nog_n ?_ | refine nog_r ?_ | refine blk_n ?_ | refine blk_r ?_ | refine blk_e ?_ | refine blk_o (by decide) ?_ | refine cp_t ?_ | refine cp_f ?_
    | ((with_reducible apply vCond_x); (focus (simp only [lv, E1, E2, E5, ET, T, mvB, bxB, sxB, rxB, fwd, fwds, inv, mOk, EB, simprocAttr, DBA14, Ch.x, St.x]; with_reducible first | exact Eq.refl (bo true) | exact Eq.refl (bo false))))
    | ((with_reducible refine And.intro ?_ ?_); (focus (try omega)))
  all_goals
    refine Kf_r ?_
    simp only [Tryz.f12, E4, E3, E2, E5, rawX, deadX, ET, T, EB, simprocAttr, DBA14, Ch.x, St.x, X.p.injEq, X.tup.injEq, PX.one.injEq, PX.agg.injEq, TV.v.injEq, TV.sr.injEq, SV.raw.injEq, SV.sl.injEq, Value.bool.injEq, Value.int.injEq, List.cons.injEq, Prod.mk.injEq, true_and, and_true, and_self]
    symm
    simp only [decide_eq_true_eq, decide_eq_false_iff_not, St.eq_iff]
    simp_all
end Go.Proofs.YtdpflafjfkooeaaGreatDoorG
namespace Go.Proofs.YtdpflafjfkooeaaGreatDoorG
open Go Go.RowKit Go.Proofs
set_option linter.unusedSimpArgs false
set_option linter.unusedVariables false
theorem DBA16 : type_of% (And.intro @rn_len (And.intro @chs_len (And.intro @chs_cnt @List.length_map.{0,0}))) := ⟨@rn_len, @chs_len, @chs_cnt, @List.length_map.{0,0}⟩
set_option maxRecDepth 10000 in
set_option maxHeartbeats 4000000 in
theorem copy_ok (s : St) (hs : s.small) : CallOk Tryz.prog 6 [s.x] s.x [] false := by
  obtain ⟨ht, hu, hr, hul, hrl⟩ := hs
  refine fn_ok' T_ok (orc_ok _) mixed Tryz.func6 rfl (by kernel_rfl) (lv [[1, 2, 1000002], [1, 2, 3], [1, 2, 3, 4], [1, 2, 3, 4, 15], [1, 2, 3, 4], [1, 2, 3, 4], [1, 2, 3, 5], [1, 2, 3, 5, 34], [1, 2, 3, 5], [1, 2, 3, 5], [2, 1000002]]) 50 rfl (by simp) rfl (by simp) ?_
  simp only [argsG, Nat.zero_add, Nat.reduceAdd, St.x]
  repeat' first
    | ((first
        | ((with_reducible refine vR_cons (by decide) ?_); generalize hk : KtR _ _ _ _ _ _ _ _ _ _ = k)
        | ((first
        | with_reducible refine vOps_cons' ?_) <;> generalize hk : Kt _ _ _ _ _ _ _ _ _ = k)) <;> (simp only [Tryz.f6, lv, E1, E2, E5, ET, T, mvB, bxB, sxB, rxB, fwd, fwds, inv, mOk, EB, simprocAttr, DBA16, Ch.inv, St.x]; (try simp (disch := omega) only [wrap_in, Int.toNat_natCast, tv_rn, tv_ch0, tv_ch1, tv_ch2]); subst hk))
    | with_reducible first | refine Kt_p ?_ | refine Kt_i (by kernel_rfl) ?_ | refine Kr_f (by kernel_rfl) ?_
    | (with_reducible refine Kr_t ?_; simp only [List.length_append, List.length_cons, List.length_nil, Nat.reduceAdd, Nat.reduceSub, List.drop_succ_cons, List.drop_zero])
    | with_reducible first | refine vR_nil ?_ | refine KtR_i (by kernel_rfl) ?_ | refine KrR_i (by kernel_rfl) ?_ | refine vR_skip (by decide) ?_
    | ((with_reducible refine vB_i ?_ ?_) <;> intro _ <;> (first | (exfalso; omega) | (exact absurd trivial ‹¬True›) | (try dsimp only [])))
    | ((with_reducible refine vOps_nil' ?_); refine Kr_i (by kernel_rfl) ?_; generalize hk : plain _ _ = G; simp only [lv, E3, E2, E5, rawX, deadX, EB, simprocAttr, DBA16, Ch.inv, St.x] at hk; subst hk)
    | with_reducible refine vSeq_i ?_
    | with_reducible first | refine vRegion_i (by kernel_rfl) ?_ | refine Kv_i ?_
    | ((with_reducible apply vStrK_i); (focus (rfl; done)))
    | ((with_reducible refine imp_i ?_); intro _)
    | with_reducible first | refine Ks_n ?_ | refine Ks_r ?_ | refine Ks_e ?_ | refine Kl_e ?_ | refine Kx_n ?_ | refine Kl_r ?_ | refine vRet_i ?_ | refine vSkip_i ?_ | refine vExit_i ?_ | refine vBlock_i ?_ | refine Ks_p ?_ | refine Kl_p ?_ | refine blk_p ?_ | exact Kb_p | refine vGoto_i ?_ | refine vLabel_i ?_ | refine Ks_g ?_ | refine Kl_g ?_ | refine blk_g ?_ | refine jmp_g ?_ | refine jmp_n ?_ | refine jmp_r ?_ | refine nog_n ?_ | refine nog_r ?_ | refine blk_n ?_ | refine blk_r ?_ | refine blk_e ?_ | refine blk_o (by decide) ?_ | refine cp_t ?_ | refine cp_f ?_
    | ((with_reducible apply vCond_x); (focus (simp only [lv, E1, E2, E5, ET, T, mvB, bxB, sxB, rxB, fwd, fwds, inv, mOk, EB, simprocAttr, DBA16, Ch.inv, St.x]; with_reducible first | exact Eq.refl (bo true) | exact Eq.refl (bo false))))
    | ((with_reducible refine And.intro ?_ ?_); (focus (try omega)))
  all_goals try omega
  refine vLoop_s (fun k : Nat => [(.t 1, .t (.p (.one (.pr 0 0)))), (.t 2, .t (.p (.one (.pr 1 0)))), (.t 3, .t (.p (.one (.pr 2 0)))), (.t 4, .t (i64 k)), (.box 0, .box 27 [.v (.sl 1 (rn s.text)), .v (.sl 3 (chs s.undo)), .v (.sl 3 (chs s.redo))]), (.box 1, .box 27 [.v (.sl 1 []), .v (.sl 3 []), .v (.sl 3 [])]), (.box 2, .box 27 [.sr 3, .sr 4, .sr 5]), (.row 3, .row 21 1 (rn s.text)), (.row 4, .row 47 3 (chs (s.undo.take k))), (.row 5, .row 47 3 [])]) (fun k => k ≤ s.undo.length) (fun k => s.undo.length - k) 0 (by omega) (by simp only [List.take_zero, chs_nil]; rfl) ?_
  intro k hk
  repeat' first
    | ((first
        | ((with_reducible refine vR_cons (by decide) ?_); generalize hk : KtR _ _ _ _ _ _ _ _ _ _ = k)
        | ((first
        | with_reducible refine vOps_cons' ?_
        | ((with_reducible apply orc_i); (focus (exact turned_ok (s.undo.getD k noCh) (hu _ (mem_getD (by omega))); done)))
        | ((with_reducible apply orc_i); (focus (exact turned_ok (Ch.inv (s.undo.getD k noCh)) (And.symm (hu _ (mem_getD (by omega)))); done)))) <;> generalize hk : Kt _ _ _ _ _ _ _ _ _ = k)) <;> (simp only [Tryz.f6, lv, E1, E2, E5, ET, T, mvB, bxB, sxB, rxB, fwd, fwds, inv, mOk, EB, simprocAttr, DBA16, Ch.inv, St.x]; (try simp (disch := omega) only [wrap_in, Int.toNat_natCast, tv_rn, tv_ch0, tv_ch1, tv_ch2]); subst hk))
    | with_reducible first | refine Kt_p ?_ | refine Kt_i (by kernel_rfl) ?_ | refine Kr_f (by kernel_rfl) ?_
    | (with_reducible refine Kr_t ?_; simp only [List.length_append, List.length_cons, List.length_nil, Nat.reduceAdd, Nat.reduceSub, List.drop_succ_cons, List.drop_zero])
    | with_reducible first | refine vR_nil ?_ | refine KtR_i (by kernel_rfl) ?_ | refine KrR_i (by kernel_rfl) ?_ | refine vR_skip (by decide) ?_
    | ((with_reducible refine vB_i ?_ ?_) <;> intro _ <;> (first | (exfalso; omega) | (exact absurd trivial ‹¬True›) | (try dsimp only [])))
    | ((with_reducible refine vOps_nil' ?_); refine Kr_i (by kernel_rfl) ?_; generalize hk : plain _ _ = G; simp only [lv, E3, E2, E5, rawX, deadX, EB, simprocAttr, DBA16, Ch.inv, St.x] at hk; subst hk)
    | with_reducible refine vSeq_i ?_
    | with_reducible first | refine vRegion_i (by kernel_rfl) ?_ | refine Kv_i ?_
    | ((with_reducible apply vStrK_i); (focus (rfl; done)))
    | ((with_reducible refine imp_i ?_); intro _)
    | with_reducible first | refine Ks_n ?_ | refine Ks_r ?_ | refine Ks_e ?_ | refine Kl_e ?_ | refine Kx_n ?_ | refine Kl_r ?_ | refine vRet_i ?_ | refine vSkip_i ?_ | refine vExit_i ?_ | refine vBlock_i ?_ | refine Ks_p ?_ | refine Kl_p ?_ | refine blk_p ?_ | exact Kb_p | refine vGoto_i ?_ | refine vLabel_i ?_ | refine Ks_g ?_ | refine Kl_g ?_ | refine blk_g ?_ | refine jmp_g ?_ | refine jmp_n ?_ | refine jmp_r ?_ | refine nog_n ?_ | refine nog_r ?_ | refine blk_n ?_ | refine blk_r ?_ | refine blk_e ?_ | refine blk_o (by decide) ?_ | refine cp_t ?_ | refine cp_f ?_
    | ((with_reducible apply vCond_x); (focus (simp only [lv, E1, E2, E5, ET, T, mvB, bxB, sxB, rxB, fwd, fwds, inv, mOk, EB, simprocAttr, DBA16, Ch.inv, St.x]; with_reducible first | exact Eq.refl (bo true) | exact Eq.refl (bo false))))
    | ((with_reducible refine And.intro ?_ ?_); (focus (try omega)))
  all_goals try (simp only [cnt, List.length_append, List.length_cons, List.length_nil, chs_len, List.length_take]; omega)
  · refine Kl_n ⟨k + 1, by omega, by omega, ?_⟩
    rw [chs_take1 (by omega)]
    simp only [Int.natCast_add, Int.natCast_one]
  rename_i hlast
  rw [List.take_of_length_le (by omega)]
  refine vLoop_s (fun k : Nat => [(.t 1, .t (.p (.one (.pr 0 0)))), (.t 2, .t (.p (.one (.pr 1 0)))), (.t 3, .t (.p (.one (.pr 2 0)))), (.t 5, .t (i64 k)), (.box 0, .box 27 [.v (.sl 1 (rn s.text)), .v (.sl 3 (chs s.undo)), .v (.sl 3 (chs s.redo))]), (.box 1, .box 27 [.v (.sl 1 []), .v (.sl 3 []), .v (.sl 3 [])]), (.box 2, .box 27 [.sr 3, .sr 4, .sr 5]), (.row 3, .row 21 1 (rn s.text)), (.row 4, .row 47 3 (chs s.undo)), (.row 5, .row 47 3 (chs (s.redo.take k)))]) (fun k => k ≤ s.redo.length) (fun k => s.redo.length - k) 0 (by omega) (by simp only [List.take_zero, chs_nil]; rfl) ?_
  intro k hk
  repeat' first
    | ((first
        | ((with_reducible refine vR_cons (by decide) ?_); generalize hk : KtR _ _ _ _ _ _ _ _ _ _ = k)
        | ((first
        | with_reducible refine vOps_cons' ?_
        | ((with_reducible apply orc_i); (focus (exact turned_ok (s.redo.getD k noCh) (hr _ (mem_getD (by omega))); done)))
        | ((with_reducible apply orc_i); (focus (exact turned_ok (Ch.inv (s.redo.getD k noCh)) (And.symm (hr _ (mem_getD (by omega)))); done)))) <;> generalize hk : Kt _ _ _ _ _ _ _ _ _ = k)) <;> (simp only [Tryz.f6, lv, E1, E2, E5, ET, T, mvB, bxB, sxB, rxB, fwd, fwds, inv, mOk, EB, simprocAttr, DBA16, Ch.inv, St.x]; (try simp (disch := omega) only [wrap_in, Int.toNat_natCast, tv_rn, tv_ch0, tv_ch1, tv_ch2]); subst hk))
    | with_reducible first | refine Kt_p ?_ | refine Kt_i (by kernel_rfl) ?_ | refine Kr_f (by kernel_rfl) ?_
    | (with_reducible refine Kr_t ?_; simp only [List.length_append, List.length_cons, List.length_nil, Nat.reduceAdd, Nat.reduceSub, List.drop_succ_cons, List.drop_zero])
    | with_reducible first | refine vR_nil ?_ | refine KtR_i (by kernel_rfl) ?_ | refine KrR_i (by kernel_rfl) ?_ | refine vR_skip (by decide) ?_
    | ((with_reducible refine vB_i ?_ ?_) <;> intro _ <;> (first | (exfalso; omega) | (exact absurd trivial ‹¬True›) | (try dsimp only [])))
    | ((with_reducible refine vOps_nil' ?_); refine Kr_i (by kernel_rfl) ?_; generalize hk : plain _ _ = G; simp only [lv, E3, E2, E5, rawX, deadX, EB, simprocAttr, DBA16, Ch.inv, St.x] at hk; subst hk)
    | with_reducible refine vSeq_i ?_
    | with_reducible first | refine vRegion_i (by kernel_rfl) ?_ | refine Kv_i ?_
    | ((with_reducible apply vStrK_i); (focus (rfl; done)))
    | ((with_reducible refine imp_i ?_); intro _)
    | with_reducible first | refine Ks_n ?_ | refine Ks_r ?_ | refine Ks_e ?_ | refine Kl_e ?_ | refine Kx_n ?_ | refine Kl_r ?_ | refine vRet_i ?_ | refine vSkip_i ?_ | refine vExit_i ?_ | refine vBlock_i ?_ | refine Ks_p ?_ | refine Kl_p ?_ | refine blk_p ?_ | exact Kb_p | refine vGoto_i ?_ | refine vLabel_i ?_ | refine Ks_g ?_ | refine Kl_g ?_ | refine blk_g ?_ | refine jmp_g ?_ | refine jmp_n ?_ | refine jmp_r ?_ | refine nog_n ?_ | refine nog_r ?_ | refine blk_n ?_ | refine blk_r ?_ | refine blk_e ?_ | refine blk_o (by decide) ?_ | refine cp_t ?_ | refine cp_f ?_
    | ((with_reducible apply vCond_x); (focus (simp only [lv, E1, E2, E5, ET, T, mvB, bxB, sxB, rxB, fwd, fwds, inv, mOk, EB, simprocAttr, DBA16, Ch.inv, St.x]; with_reducible first | exact Eq.refl (bo true) | exact Eq.refl (bo false))))
    | ((with_reducible refine And.intro ?_ ?_); (focus (try omega)))
  all_goals try (simp only [cnt, List.length_append, List.length_cons, List.length_nil, chs_len, List.length_take]; omega)
  · refine Kl_n ⟨k + 1, by omega, by omega, ?_⟩
    rw [chs_take1 (by omega)]
    simp only [Int.natCast_add, Int.natCast_one]
  rename_i hlast
  rw [List.take_of_length_le (by omega)]
  refine Kf_r ?_
  simp only [Tryz.f6, E4, E3, E2, E5, rawX, deadX, ET, T, EB, simprocAttr, DBA16, Ch.inv, St.x, St.x]
end Go.Proofs.YtdpflafjfkooeaaGreatDoorG
namespace Go.Proofs.YtdpflafjfkooeaaGreatDoorG
open Go Go.RowKit Go.Proofs
set_option linter.unusedSimpArgs false
set_option linter.unusedVariables false
theorem app_zero {s : St} {o : Opn} (h : (appF s o).2 = 0) : (effF s o).2 = 0 := by
  unfold appF at h
  split at h
  · exact absurd h (by assumption)
  · rename_i h1; exact Classical.not_not.1 h1
theorem app_ok {s : St} {o : Opn} (hs : s.ok) (ho : o.ok) (h : (appF s o).2 = 0) : (appF s o).1.ok := by
  have h0 := app_zero h
  have hI : effF s o = ((effF s o).1, 0) := by rw [← h0]
  obtain ⟨g1, g2, g3⟩ := eff_good hs ho hI
  have hz := right_zero (eff_zero hI)
  have hz2 := hz.2.1
  have hd : R32s ((effF s o).1.done s.text) := hs.run.done g2.rcame
  have hu : ∀ c ∈ s.undo ++ [(effF s o).1], c.ok := fun c hc => by
    rcases List.mem_append.1 hc with h1 | h1
    · exact hs.undo c h1
    · simp at h1; subst h1; exact g2
  unfold appF
  rw [if_neg (fun h => h h0)]
  split
  · exact ⟨by show ((effF s o).1.done s.text).length ≤ 100000; omega, hd, fun c hc => hs.undo c (List.mem_of_mem_take hc), fun c hc => by
      rcases List.mem_append.1 hc with h1 | h1
      · exact hs.redo c h1
      · simp at h1; subst h1; exact g2.inv, by simp; omega, by simp; omega⟩
  · split
    · exact ⟨by show ((effF s o).1.done s.text).length ≤ 100000; omega, hd, hu, fun c hc => hs.redo c (List.mem_of_mem_take hc), by simp; omega, by simp; omega⟩
    · refine ⟨by show ((effF s o).1.done s.text).length ≤ 100000; omega, hd, fun c hc => ?_, fun c hc => by simp at hc, ?_, by simp⟩
      · dsimp only at hc
        split at hc
        · exact hu c (List.mem_of_mem_drop hc)
        · exact hu c hc
      · show (if _ then _ else _ : List Ch).length ≤ 100000
        split <;> simp <;> omega
/-- Operations, one behind the other. -/
def ops (l : List Opn) : List SV := l.flatMap fun o => [.raw (.int .i64 o.kind), .raw (.int .i64 o.at_), .raw (.int .i64 o.to_), .sl 1 (rn o.text)]
end Go.Proofs.YtdpflafjfkooeaaGreatDoorG
namespace Go.Proofs.YtdpflafjfkooeaaGreatDoorG
open Go Go.RowKit Go.Proofs
set_option linter.unusedSimpArgs false
set_option linter.unusedVariables false
theorem DBC5 : type_of% (And.intro @List.length_map.{0,0} (And.intro @bs_len (And.intro @rn_len (And.intro @chs_len (And.intro @chs_cnt (And.intro @List.length_append.{0} (And.intro @List.length_cons.{0} @List.length_nil.{0}))))))) := ⟨@List.length_map.{0,0}, @bs_len, @rn_len, @chs_len, @chs_cnt, @List.length_append.{0}, @List.length_cons.{0}, @List.length_nil.{0}⟩
set_option maxRecDepth 10000 in
theorem rsize_ok (n : Int) (h0 : 0 ≤ n) (h1 : n ≤ 4096) : CallOk Tryz.prog 31 [i64 n] (i64 (n + 14)) [] true := by
  refine fn_ok' T_ok (orc_ok _) mixed Tryz.func31 rfl (by kernel_rfl) (lv [[0], [0, 8], [2], [2]]) 11 rfl (by simp) rfl (by simp [X.all, PX.all, TV.rawR, SV.isRaw]) ?_
  simp only [argsG, Nat.zero_add, Nat.reduceAdd]
  repeat' first
    | ((first
        | ((with_reducible refine vR_cons (by decide) ?_); generalize hk : KtR _ _ _ _ _ _ _ _ _ _ = k)
        | ((first
        | with_reducible refine vOps_cons' ?_) <;> generalize hk : Kt _ _ _ _ _ _ _ _ _ = k)) <;> (simp only [Tryz.f31, lv, E1, E2, E5, ET, T, mvB, bxB, sxB, rxB, fwd, fwds, inv, mOk, EB, simprocAttr, DBC5, Ch.x, Opn.x, St.x]; (try simp (disch := omega) only [wrap_in, Int.toNat_natCast, tv_rn, tv_ch0, tv_ch1, tv_ch2]); subst hk))
    | with_reducible first | refine Kt_p ?_ | refine Kt_i (by kernel_rfl) ?_ | refine Kr_f (by kernel_rfl) ?_
    | (with_reducible refine Kr_t ?_; simp only [List.length_append, List.length_cons, List.length_nil, Nat.reduceAdd, Nat.reduceSub, List.drop_succ_cons, List.drop_zero])
    | with_reducible first | refine vR_nil ?_ | refine KtR_i (by kernel_rfl) ?_ | refine KrR_i (by kernel_rfl) ?_ | refine vR_skip (by decide) ?_
    | ((with_reducible refine vB_i ?_ ?_) <;> intro _ <;> (first | (exfalso; omega) | (exact absurd trivial ‹¬True›) | (try dsimp only [])))
    | ((with_reducible refine vOps_nil' ?_); refine Kr_i (by kernel_rfl) ?_; generalize hk : plain _ _ = G; simp only [lv, E3, E2, E5, rawX, deadX, EB, simprocAttr, DBC5, Ch.x, Opn.x, St.x] at hk; subst hk)
    | with_reducible refine vSeq_i ?_
    | with_reducible first | refine vRegion_i (by kernel_rfl) ?_ | refine Kv_i ?_
    | ((with_reducible apply vStrK_i); (focus (rfl; done)))
    | ((with_reducible refine imp_i ?_); intro _)
    | with_reducible first | refine Ks_n ?_ | refine Ks_r ?_ | refine Ks_e ?_ | refine Kl_e ?_ | refine Kx_n ?_ | refine Kl_r ?_ | refine vRet_i ?_ | refine vSkip_i ?_ | refine vExit_i ?_ | refine vBlock_i ?_ | refine Ks_p ?_ | refine Kl_p ?_ | refine blk_p ?_ | exact Kb_p | refine vGoto_i ?_ | refine vLabel_i ?_ | refine Ks_g ?_ | refine Kl_g ?_ | refine blk_g ?_ | refine jmp_g ?_ | refine jmp_n ?_ | refine jmp_r ?_ | refine nog_n ?_ | refine nog_r ?_ | refine blk_n ?_ | refine blk_r ?_ | refine blk_e ?_ | refine blk_o (by decide) ?_ | refine cp_t ?_ | refine cp_f ?_
    | ((with_reducible apply vCond_x); (focus (simp only [lv, E1, E2, E5, ET, T, mvB, bxB, sxB, rxB, fwd, fwds, inv, mOk, EB, simprocAttr, DBC5, Ch.x, Opn.x, St.x]; with_reducible first | exact Eq.refl (bo true) | exact Eq.refl (bo false))))
    | ((with_reducible refine And.intro ?_ ?_); (focus (try omega)))
  refine Kf_r ?_
  simp only [Tryz.f31, E4, E3, E2, E5, rawX, deadX, ET, T, EB, simprocAttr, DBC5, Ch.x, Opn.x, St.x]
theorem opF_le (o : Opn) : (opF o).1.length ≤ 4096 := by
  unfold opF
  (repeat' split) <;> simp only [List.length_nil, List.length_cons, List.length_append, numB_len] <;> omega
/-- What an operation takes. -/
def opC (o : Opn) : Int := if (opF o).2 = 0 then ((opF o).1.length : Int) + 14 else 0
set_option maxRecDepth 10000 in
theorem costOp_ok (o : Opn) (h : R32s o.text) (hl : o.text.length ≤ 2000000) : CallOk Tryz.prog 15 [o.x] (.tup [.one (.v (.raw (.int .i64 (opC o)))), .one (.v (.raw (.int .i64 (opF o).2)))]) [] true := by
  have hq := wop_ok o h hl
  have hle := opF_le o
  simp only [Opn.x] at hq
  refine fn_ok' T_ok (orc_ok _) mixed Tryz.func15 rfl (by kernel_rfl) (lv [[1], [4, 5], [4, 5, 12], [2, 3], [2, 3]]) 17 rfl (by simp) rfl (by simp [X.all, PX.all, TV.rawR, SV.isRaw]) ?_
  simp only [argsG, Nat.zero_add, Nat.reduceAdd, Opn.x]
  repeat' first
    | ((first
        | ((with_reducible refine vR_cons (by decide) ?_); generalize hk : KtR _ _ _ _ _ _ _ _ _ _ = k)
        | ((first
        | with_reducible refine vOps_cons' ?_
        | ((with_reducible apply orc_i); (focus (exact hq; done)))
        | ((with_reducible apply orc_i); (focus (exact rsize_ok _ (by omega) (by omega); done)))) <;> generalize hk : Kt _ _ _ _ _ _ _ _ _ = k)) <;> (simp only [Tryz.f15, lv, E1, E2, E5, ET, T, mvB, bxB, sxB, rxB, fwd, fwds, inv, mOk, EB, simprocAttr, DBC5, Ch.x, Opn.x, St.x]; (try simp (disch := omega) only [wrap_in, Int.toNat_natCast, tv_rn, tv_ch0, tv_ch1, tv_ch2]); subst hk))
    | with_reducible first | refine Kt_p ?_ | refine Kt_i (by kernel_rfl) ?_ | refine Kr_f (by kernel_rfl) ?_
    | (with_reducible refine Kr_t ?_; simp only [List.length_append, List.length_cons, List.length_nil, Nat.reduceAdd, Nat.reduceSub, List.drop_succ_cons, List.drop_zero])
    | with_reducible first | refine vR_nil ?_ | refine KtR_i (by kernel_rfl) ?_ | refine KrR_i (by kernel_rfl) ?_ | refine vR_skip (by decide) ?_
    | ((with_reducible refine vB_i ?_ ?_) <;> intro _ <;> (first | (exfalso; omega) | (exact absurd trivial ‹¬True›) | (try dsimp only [])))
    | ((with_reducible refine vOps_nil' ?_); refine Kr_i (by kernel_rfl) ?_; generalize hk : plain _ _ = G; simp only [lv, E3, E2, E5, rawX, deadX, EB, simprocAttr, DBC5, Ch.x, Opn.x, St.x] at hk; subst hk)
    | with_reducible refine vSeq_i ?_
    | with_reducible first | refine vRegion_i (by kernel_rfl) ?_ | refine Kv_i ?_
    | ((with_reducible apply vStrK_i); (focus (rfl; done)))
    | ((with_reducible refine imp_i ?_); intro _)
    | with_reducible first | refine Ks_n ?_ | refine Ks_r ?_ | refine Ks_e ?_ | refine Kl_e ?_ | refine Kx_n ?_ | refine Kl_r ?_ | refine vRet_i ?_ | refine vSkip_i ?_ | refine vExit_i ?_ | refine vBlock_i ?_ | refine Ks_p ?_ | refine Kl_p ?_ | refine blk_p ?_ | exact Kb_p | refine vGoto_i ?_ | refine vLabel_i ?_ | refine Ks_g ?_ | refine Kl_g ?_ | refine blk_g ?_ | refine jmp_g ?_ | refine jmp_n ?_ | refine jmp_r ?_ | refine nog_n ?_ | refine nog_r ?_ | refine blk_n ?_ | refine blk_r ?_ | refine blk_e ?_ | refine blk_o (by decide) ?_ | refine cp_t ?_ | refine cp_f ?_
    | ((with_reducible apply vCond_x); (focus (simp only [lv, E1, E2, E5, ET, T, mvB, bxB, sxB, rxB, fwd, fwds, inv, mOk, EB, simprocAttr, DBC5, Ch.x, Opn.x, St.x]; with_reducible first | exact Eq.refl (bo true) | exact Eq.refl (bo false))))
    | ((with_reducible refine And.intro ?_ ?_); (focus (try omega)))
  · rename_i k
    refine Kf_r ?_
    simp only [Tryz.f15, E4, E3, E2, E5, rawX, deadX, ET, T, EB, simprocAttr, DBC5, Ch.x, Opn.x, St.x, opC, if_pos k, k]
  · rename_i k
    refine Kf_r ?_
    simp only [Tryz.f15, E4, E3, E2, E5, rawX, deadX, ET, T, EB, simprocAttr, DBC5, Ch.x, Opn.x, St.x, opC, if_neg k]
/-- What a state takes. -/
def stC (s : St) : Int := if (stF 0 s).2 = 0 then ((stF 0 s).1.length : Int) else 0
set_option maxRecDepth 10000 in
theorem costState_ok (s : St) (hs : s.ok) : CallOk Tryz.prog 16 [s.x] (.tup [.one (.v (.raw (.int .i64 (stC s)))), .one (.v (.raw (.int .i64 (stF 0 s).2)))]) [] true := by
  have hq := wstate_ok 0 s hs
  simp only [St.x] at hq
  refine fn_ok' T_ok (orc_ok _) mixed Tryz.func16 rfl (by kernel_rfl) (lv [[1], [4, 5], [4, 5, 12], [2, 3], [2, 3]]) 16 rfl (by simp) rfl (by simp [X.all, PX.all, TV.rawR, SV.isRaw]) ?_
  simp only [argsG, Nat.zero_add, Nat.reduceAdd, St.x]
  repeat' first
    | ((first
        | ((with_reducible refine vR_cons (by decide) ?_); generalize hk : KtR _ _ _ _ _ _ _ _ _ _ = k)
        | ((first
        | with_reducible refine vOps_cons' ?_
        | ((with_reducible apply orc_i); (focus (exact hq; done)))) <;> generalize hk : Kt _ _ _ _ _ _ _ _ _ = k)) <;> (simp only [Tryz.f16, lv, E1, E2, E5, ET, T, mvB, bxB, sxB, rxB, fwd, fwds, inv, mOk, EB, simprocAttr, DBC5, Ch.x, Opn.x, St.x]; (try simp (disch := omega) only [wrap_in, Int.toNat_natCast, tv_rn, tv_ch0, tv_ch1, tv_ch2]); subst hk))
    | with_reducible first | refine Kt_p ?_ | refine Kt_i (by kernel_rfl) ?_ | refine Kr_f (by kernel_rfl) ?_
    | (with_reducible refine Kr_t ?_; simp only [List.length_append, List.length_cons, List.length_nil, Nat.reduceAdd, Nat.reduceSub, List.drop_succ_cons, List.drop_zero])
    | with_reducible first | refine vR_nil ?_ | refine KtR_i (by kernel_rfl) ?_ | refine KrR_i (by kernel_rfl) ?_ | refine vR_skip (by decide) ?_
    | ((with_reducible refine vB_i ?_ ?_) <;> intro _ <;> (first | (exfalso; omega) | (exact absurd trivial ‹¬True›) | (try dsimp only [])))
    | ((with_reducible refine vOps_nil' ?_); refine Kr_i (by kernel_rfl) ?_; generalize hk : plain _ _ = G; simp only [lv, E3, E2, E5, rawX, deadX, EB, simprocAttr, DBC5, Ch.x, Opn.x, St.x] at hk; subst hk)
    | with_reducible refine vSeq_i ?_
    | with_reducible first | refine vRegion_i (by kernel_rfl) ?_ | refine Kv_i ?_
    | ((with_reducible apply vStrK_i); (focus (rfl; done)))
    | ((with_reducible refine imp_i ?_); intro _)
    | with_reducible first | refine Ks_n ?_ | refine Ks_r ?_ | refine Ks_e ?_ | refine Kl_e ?_ | refine Kx_n ?_ | refine Kl_r ?_ | refine vRet_i ?_ | refine vSkip_i ?_ | refine vExit_i ?_ | refine vBlock_i ?_ | refine Ks_p ?_ | refine Kl_p ?_ | refine blk_p ?_ | exact Kb_p | refine vGoto_i ?_ | refine vLabel_i ?_ | refine Ks_g ?_ | refine Kl_g ?_ | refine blk_g ?_ | refine jmp_g ?_ | refine jmp_n ?_ | refine jmp_r ?_ | refine nog_n ?_ | refine nog_r ?_ | refine blk_n ?_ | refine blk_r ?_ | refine blk_e ?_ | refine blk_o (by decide) ?_ | refine cp_t ?_ | refine cp_f ?_
    | ((with_reducible apply vCond_x); (focus (simp only [lv, E1, E2, E5, ET, T, mvB, bxB, sxB, rxB, fwd, fwds, inv, mOk, EB, simprocAttr, DBC5, Ch.x, Opn.x, St.x]; with_reducible first | exact Eq.refl (bo true) | exact Eq.refl (bo false))))
    | ((with_reducible refine And.intro ?_ ?_); (focus (try omega)))
  · rename_i k
    refine Kf_r ?_
    simp only [Tryz.f16, E4, E3, E2, E5, rawX, deadX, ET, T, EB, simprocAttr, DBC5, Ch.x, Opn.x, St.x, stC, if_pos k, k]
  · rename_i k
    refine Kf_r ?_
    simp only [Tryz.f16, E4, E3, E2, E5, rawX, deadX, ET, T, EB, simprocAttr, DBC5, Ch.x, Opn.x, St.x, stC, if_neg k]
end Go.Proofs.YtdpflafjfkooeaaGreatDoorG
