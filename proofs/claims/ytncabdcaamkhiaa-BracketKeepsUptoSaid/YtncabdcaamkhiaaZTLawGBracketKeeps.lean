/- YtncabdcaamkhiaaZTLawGBracketKeeps: a part of the proof, joined of its texts. -/
import Derived.Test.YtncabdcaamkhiaaZ17
namespace Go.Proofs.YtncabdcaamkhiaaG
open Go Go.RowKit Go.Proofs
set_option linter.unusedSimpArgs false
set_option linter.unusedVariables false
abbrev txX (l u t : List Int) : X := .p (.agg [.v (.sl 1 (rn l)), .v (.sl 1 (nts u)), .v (.sl 1 (nts t))])
end Go.Proofs.YtncabdcaamkhiaaG
/- L10c: layer 10's laws of whole sequences at what came in. -/
namespace Go.Proofs.YtncabdcaamkhiaaG
open Go Go.RowKit Go.Proofs Go.Proofs.Ytncabdcaamkhiaa
theorem typ_rnl {n : Nat} {xs : List SV} (h : Typ T n 22 xs) : ∃ l : List Int, xs = [.sl 1 (rn l)] ∧ l.length ≤ n := by
  obtain ⟨l, e, _, h2⟩ := h.ints (by rfl) (by rfl)
  exact ⟨l, e, h2⟩
theorem typ_ntl {n : Nat} {xs : List SV} (h : Typ T n 23 xs) : ∃ l : List Int, xs = [.sl 1 (nts l)] ∧ l.length ≤ n := by
  obtain ⟨l, e, _, h2⟩ := h.ints (by rfl) (by rfl)
  exact ⟨l, e, h2⟩
theorem typ_tx {n : Nat} {xs : List SV} (h : Typ T n 36 xs) : ∃ l u t : List Int, xs = [.sl 1 (rn l), .sl 1 (nts u), .sl 1 (nts t)] ∧ l.length ≤ n ∧ u.length ≤ n ∧ t.length ≤ n := by
  obtain ⟨xss, rfl, ha⟩ := h.struct' (by rfl)
  obtain ⟨x0, r0, rfl, h0, ha⟩ := all2_c1 ha
  obtain ⟨x1, r1, rfl, h1, ha⟩ := all2_c1 ha
  obtain ⟨x2, r2, rfl, h2, ha⟩ := all2_c1 ha
  have := all2_n ha
  subst this
  obtain ⟨l, rfl, q0⟩ := typ_rnl h0
  obtain ⟨u, rfl, q1⟩ := typ_ntl h1
  obtain ⟨t, rfl, q2⟩ := typ_ntl h2
  exact ⟨l, u, t, rfl, q0, q1, q2⟩
theorem typ_i64 {n : Nat} {x : SV} (h : Typ T n 3 [x]) : ∃ m : Int, x = .raw (.int .i64 m) := by
  obtain ⟨m, e, _⟩ := h.int' (by rfl)
  simp only [List.cons.injEq, and_true] at e
  exact ⟨m, e⟩
end Go.Proofs.YtncabdcaamkhiaaG
/- N16: what the brackets' directions change (pure). -/
namespace Go.Proofs.YtncabdcaamkhiaaG
open Go Go.RowKit Go.Proofs
set_option linter.unusedSimpArgs false
set_option linter.unusedVariables false
theorem getD_set {l : List Int} {i q : Nat} {x : Int} : (l.set i x).getD q 0 = if i = q ∧ i < l.length then x else l.getD q 0 := by
  rw [List.getD_eq_getElem?_getD, List.getD_eq_getElem?_getD, List.getElem?_set]
  by_cases h : i = q
  · subst h
    by_cases h2 : i < l.length
    · rw [if_pos rfl, if_pos h2, if_pos ⟨rfl, h2⟩]; rfl
    · rw [if_pos rfl, if_neg h2, if_neg (fun q => h2 q.2), List.getElem?_eq_none (by omega)]
  · rw [if_neg h, if_neg (fun q => h q.1)]
theorem spr_hit (u : List Int) (d : Int) (q : Nat) : ∀ f j now, j + f = now.length → j ≤ q → q < now.length → (∀ r, j ≤ r → r ≤ q → u.getD r 0 = 9) → (spr u d f j now).getD q 0 = d
  | 0, j, now, h, h1, h2, _ => by omega
  | f + 1, j, now, h, h1, h2, h3 => by
    unfold spr
    rw [if_pos (h3 j (Nat.le_refl _) h1)]
    by_cases e : j = q
    · subst e
      have : ∀ f i now, j < i → j < now.length → (spr u d f i now).getD j 0 = now.getD j 0 := by
        intro f
        induction f with
        | zero => intro i now _ _; rfl
        | succ f ih =>
          intro i now hi hn
          unfold spr; split
          · rw [ih (i + 1) (now.set i d) (by omega) (by rw [List.length_set]; exact hn), getD_set, if_neg (by omega)]
          · rfl
      rw [this f (j + 1) (now.set j d) (by omega) (by rw [List.length_set]; exact h2), getD_set, if_pos ⟨rfl, by omega⟩]
    · exact spr_hit u d q f (j + 1) (now.set j d) (by rw [List.length_set]; omega) (by omega) (by rw [List.length_set]; exact h2) (fun r hr hr' => h3 r (by omega) hr')
theorem spr_not (u : List Int) (d : Int) (q : Nat) : ∀ f j now, ¬ (j ≤ q ∧ ∀ r, j ≤ r → r ≤ q → u.getD r 0 = 9) → (spr u d f j now).getD q 0 = now.getD q 0
  | 0, j, now, _ => rfl
  | f + 1, j, now, h => by
    unfold spr; split
    · rename_i h9
      have hne : j ≠ q := by
        rintro rfl
        exact h ⟨Nat.le_refl _, fun r hr hr' => by rw [show r = j by omega]; exact h9⟩
      rw [spr_not u d q f (j + 1) (now.set j d) (fun ⟨h1, h2⟩ => h ⟨by omega, fun r hr hr' => by
        rcases Nat.lt_or_eq_of_le hr with q' | q'
        · exact h2 r q' hr'
        · exact q' ▸ h9⟩), getD_set, if_neg (by omega)]
    · rfl
/-- A place that a bracket's direction reaches. -/
def hitP (u : List Int) (i q : Nat) : Prop := q = i ∨ (i < q ∧ ∀ r, i < r → r ≤ q → u.getD r 0 = 9)
theorem put_hit {u : List Int} {d : Int} {i q : Nat} {now : List Int} (hi : i < now.length) (hq : q < now.length) (h : hitP u i q) : (putF u d i now).getD q 0 = d := by
  unfold putF
  rcases h with rfl | ⟨h1, h2⟩
  · rw [spr_not _ _ _ _ _ _ (fun ⟨h, _⟩ => by omega), getD_set, if_pos ⟨rfl, hi⟩]
  · exact spr_hit u d q _ _ _ (by rw [List.length_set]; omega) h1 (by rw [List.length_set]; exact hq) (fun r hr hr' => h2 r hr hr')
theorem put_not {u : List Int} {d : Int} {i q : Nat} {now : List Int} (h : ¬ hitP u i q) : (putF u d i now).getD q 0 = now.getD q 0 := by
  unfold putF
  rw [spr_not _ _ _ _ _ _ (fun ⟨h1, h2⟩ => h (.inr ⟨h1, fun r hr hr' => h2 r hr hr'⟩)), getD_set, if_neg (fun q => h (.inl q.1.symm))]
theorem not_hit {u : List Int} {i q : Nat} (h1 : q ≠ i) (h2 : u.getD q 0 ≠ 9) : ¬ hitP u i q := fun h => by
  rcases h with h | ⟨h, h'⟩
  · exact h1 h
  · exact h2 (h' q h (Nat.le_refl _))
/-- Both brackets' marks. -/
def mrkF (u : List Int) (now : List Int) (p : Int × Int) : List Int := putF u 1 p.2.toNat (putF u 1 p.1.toNat now)
theorem mrk_len (u : List Int) (now : List Int) (p : Int × Int) : (mrkF u now p).length = now.length := by unfold mrkF; rw [put_len, put_len]
theorem mfold_len (u : List Int) : ∀ (P : List (Int × Int)) (now : List Int), (P.foldl (mrkF u) now).length = now.length
  | [], _ => rfl
  | p :: P, now => by rw [List.foldl_cons, mfold_len u P, mrk_len]
theorem mfold_take {u : List Int} {P : List (Int × Int)} {t : List Int} {k : Nat} (h : k < P.length) : (P.take (k + 1)).foldl (mrkF u) t = mrkF u ((P.take k).foldl (mrkF u) t) (P.getD k (0, 0)) := by
  rw [List.take_add_one, List.foldl_append, List.getElem?_eq_getElem h]
  simp [List.getD, List.getElem?_eq_getElem h]
theorem dir_rng {t : List Int} {a b : Nat} {e sos : Int} (he : e = 1 ∨ e = 2) (hs : sos = 1 ∨ sos = 2) : dirF t a b e sos = 0 ∨ dirF t a b e sos = 1 ∨ dirF t a b e sos = 2 := by
  have := ahd_rng t hs a
  unfold dirF; (repeat' split) <;> omega
theorem putput_cases {u : List Int} {d : Int} {a b q : Nat} {now : List Int} (ha : a < now.length) (hb : b < now.length) (hq : q < now.length) :
    (hitP u a q ∨ hitP u b q) ∧ (putF u d b (putF u d a now)).getD q 0 = d ∨ (¬ hitP u a q ∧ ¬ hitP u b q) ∧ (putF u d b (putF u d a now)).getD q 0 = now.getD q 0 := by
  by_cases h2 : hitP u b q
  · exact .inl ⟨.inr h2, put_hit (by rw [put_len]; exact hb) (by rw [put_len]; exact hq) h2⟩
  · by_cases h1 : hitP u a q
    · exact .inl ⟨.inl h1, by rw [put_not h2, put_hit ha hq h1]⟩
    · exact .inr ⟨⟨h1, h2⟩, by rw [put_not h2, put_not h1]⟩
/-- What is not marked keeps its type; what changes becomes 1 or 2. -/
theorem res_keep {u : List Int} {e sos : Int} (he : e = 1 ∨ e = 2) (hs : sos = 1 ∨ sos = 2) {t : List Int} {n : Nat} : ∀ (P : List (Int × Int)) (now M : List Int), now.length = n → M.length = n → (∀ p ∈ P, 0 ≤ p.1 ∧ p.1 < p.2 ∧ p.2 < (n : Int)) →
    (∀ q, q < n → (M.getD q 0 = 0 → now.getD q 0 = t.getD q 0) ∧ (now.getD q 0 = t.getD q 0 ∨ now.getD q 0 = 1 ∨ now.getD q 0 = 2)) →
    ∀ q, q < n → ((P.foldl (mrkF u) M).getD q 0 = 0 → (P.foldl (stpF u e sos) now).getD q 0 = t.getD q 0) ∧ ((P.foldl (stpF u e sos) now).getD q 0 = t.getD q 0 ∨ (P.foldl (stpF u e sos) now).getD q 0 = 1 ∨ (P.foldl (stpF u e sos) now).getD q 0 = 2)
  | [], _, _, _, _, _, h => h
  | p :: P, now, M, h1, h2, h3, h => by
    rw [List.foldl_cons, List.foldl_cons]
    have hp := h3 p (List.mem_cons_self ..)
    refine res_keep he hs P _ _ (by rw [stp_len]; exact h1) (by rw [mrk_len]; exact h2) (fun p hp => h3 p (List.mem_cons_of_mem _ hp)) ?_
    intro q hq
    obtain ⟨g1, g2⟩ := h q hq
    have hM := putput_cases (u := u) (d := 1) (a := p.1.toNat) (b := p.2.toNat) (q := q) (now := M) (by omega) (by omega) (by omega)
    unfold stpF
    split
    · refine ⟨fun hz => ?_, g2⟩
      unfold mrkF at hz
      rcases hM with ⟨_, hM⟩ | ⟨_, hM⟩
      · rw [hM] at hz; omega
      · exact g1 (hM ▸ hz)
    · rename_i hd
      have hd' := dir_rng (t := now) (a := p.1.toNat) (b := p.2.toNat) he hs
      have hN := putput_cases (u := u) (d := dirF now p.1.toNat p.2.toNat e sos) (a := p.1.toNat) (b := p.2.toNat) (q := q) (now := now) (by omega) (by omega) (by omega)
      refine ⟨fun hz => ?_, ?_⟩
      · unfold mrkF at hz
        rcases hM with ⟨_, hM⟩ | ⟨hn, hM⟩
        · rw [hM] at hz; omega
        · rcases hN with ⟨hx, _⟩ | ⟨_, hN⟩
          · exact absurd hx (fun hx => hx.elim hn.1 hn.2)
          · rw [hN]; exact g1 (hM ▸ hz)
      · rcases hN with ⟨_, hN⟩ | ⟨_, hN⟩
        · rw [hN]; exact .inr (by omega)
        · rw [hN]; exact g2
/-- A pair's brackets stay alike. -/
theorem res_pair {u : List Int} {e sos : Int} {n : Nat} {p : Int × Int} (hp : 0 ≤ p.1 ∧ p.1 < p.2 ∧ p.2 < (n : Int)) (h1 : u.getD p.1.toNat 0 ≠ 9) (h2 : u.getD p.2.toNat 0 ≠ 9) : ∀ (P : List (Int × Int)) (now : List Int), now.length = n →
    (∀ r ∈ P, 0 ≤ r.1 ∧ r.1 < r.2 ∧ r.2 < (n : Int)) → (∀ r ∈ P, r = p ∨ (p.1 ≠ r.1 ∧ p.1 ≠ r.2 ∧ p.2 ≠ r.1 ∧ p.2 ≠ r.2)) → now.getD p.1.toNat 0 = now.getD p.2.toNat 0 →
    (P.foldl (stpF u e sos) now).getD p.1.toNat 0 = (P.foldl (stpF u e sos) now).getD p.2.toNat 0
  | [], _, _, _, _, h => h
  | r :: P, now, hn, hr, hd, h => by
    rw [List.foldl_cons]
    have hr0 := hr r (List.mem_cons_self ..)
    refine res_pair hp h1 h2 P _ (by rw [stp_len]; exact hn) (fun r h => hr r (List.mem_cons_of_mem _ h)) (fun r h => hd r (List.mem_cons_of_mem _ h)) ?_
    unfold stpF
    split
    · exact h
    · generalize dirF now r.1.toNat r.2.toNat e sos = d
      rcases hd r (List.mem_cons_self ..) with rfl | ⟨d1, d2, d3, d4⟩
      · rw [put_hit (by rw [put_len]; omega) (by rw [put_len]; omega) (.inl rfl), put_not (fun hx => by rcases hx with hx | ⟨hx, _⟩ <;> omega), put_hit (by omega) (by omega) (.inl rfl)]
      · rw [put_not (not_hit (by omega) h1), put_not (not_hit (by omega) h1), put_not (not_hit (by omega) h2), put_not (not_hit (by omega) h2), h]
theorem prsF_apart {l t : List Int} {p r : Int × Int} (hp : p ∈ prsF l t) (hr : r ∈ prsF l t) : r = p ∨ (p.1 ≠ r.1 ∧ p.1 ≠ r.2 ∧ p.2 ≠ r.1 ∧ p.2 ≠ r.2) := by
  obtain ⟨j, hj, rfl⟩ := List.mem_iff_getElem.1 hp
  obtain ⟨k, hk, rfl⟩ := List.mem_iff_getElem.1 hr
  have e1 : (prsF l t).getD j (0, 0) = (prsF l t)[j] := by rw [List.getD_eq_getElem?_getD, List.getElem?_eq_getElem hj]; rfl
  have e2 : (prsF l t).getD k (0, 0) = (prsF l t)[k] := by rw [List.getD_eq_getElem?_getD, List.getElem?_eq_getElem hk]; rfl
  by_cases hjk : j = k
  · subst hjk; exact .inl rfl
  · right
    have hp' := prsF_pair hp
    have hr' := prsF_pair hr
    have m1 := prsF_mem hp
    have m2 := prsF_mem hr
    have c1 : (prsF l t)[j].1 ≠ (prsF l t)[k].2 := fun e => by
      have h1 := hp'.2.2.1; have h2 := hr'.2.2.2.1
      rw [e] at h1; omega
    have c2 : (prsF l t)[j].2 ≠ (prsF l t)[k].1 := fun e => by
      have h1 := hp'.2.2.2.1; have h2 := hr'.2.2.1
      rw [e] at h1; omega
    rcases Nat.lt_or_gt_of_ne hjk with q | q
    · have := prsF_nest (l := l) (t := t) q hk
      rw [e1, e2] at this
      exact ⟨by omega, c1, c2, this.2.1⟩
    · have := prsF_nest (l := l) (t := t) q hj
      rw [e1, e2] at this
      exact ⟨by omega, c1, c2, fun h => this.2.1 h.symm⟩
theorem resF_len {l u t : List Int} {e sos : Int} : (resF l u t e sos).length = t.length := by unfold resF; exact fold_len ..
theorem resF_keep {l u t : List Int} {e sos : Int} (he : e = 1 ∨ e = 2) (hs : sos = 1 ∨ sos = 2) (ht : t.length = l.length) {q : Nat} (hq : q < t.length) :
    (((prsF l t).foldl (mrkF u) (List.replicate t.length 0)).getD q 0 = 0 → (resF l u t e sos).getD q 0 = t.getD q 0) ∧ ((resF l u t e sos).getD q 0 = t.getD q 0 ∨ (resF l u t e sos).getD q 0 = 1 ∨ (resF l u t e sos).getD q 0 = 2) :=
  res_keep he hs (t := t) (n := t.length) (prsF l t) t _ rfl (List.length_replicate ..) (fun p hp => by have := prsF_mem hp; omega) (fun q _ => ⟨fun _ => rfl, .inl rfl⟩) q hq
theorem resF_pair {l u t : List Int} {e sos : Int} (ht : t.length = l.length) {p : Int × Int} (hp : p ∈ prsF l t) (h1 : u.getD p.1.toNat 0 ≠ 9) (h2 : u.getD p.2.toNat 0 ≠ 9) :
    (resF l u t e sos).getD p.1.toNat 0 = (resF l u t e sos).getD p.2.toNat 0 := by
  have hq := prsF_pair hp
  exact res_pair (n := t.length) (by have := prsF_mem hp; omega) h1 h2 (prsF l t) t rfl (fun p hp => by have := prsF_mem hp; omega) (fun r hr => prsF_apart hp hr) (by rw [hq.1, hq.2.1])
end Go.Proofs.YtncabdcaamkhiaaG
namespace Go.Proofs.YtncabdcaamkhiaaG
open Go Go.RowKit Go.Proofs
set_option linter.unusedSimpArgs false
set_option linter.unusedVariables false
theorem nts_rep (n : Nat) : nts (List.replicate n 0) = List.replicate n (.raw (.int .i64 0)) := by simp only [nts, List.map_replicate]
set_option maxRecDepth 10000 in
set_option maxHeartbeats 4000000 in
theorem marked_ok (l u t : List Int) (a b : Nat) (ha : a < u.length) (hb : b < u.length) (hu : u.length ≤ 2000000) : CallOk Try.prog 19 [txX l u t, pr2 a b] (bo (decide (u.getD a 0 = 9 ∨ u.getD b 0 = 9))) [] true := by
  refine fn_ok' T_ok (orc_ok _) mixed Try.func19 rfl (by kernel_rfl) (lv [[2, 3], [4]]) 21 rfl (by simp) rfl (by simp [X.all, PX.all, TV.rawR, SV.isRaw]) ?_
  simp only [argsG, Nat.zero_add, Nat.reduceAdd]
  repeat' first
    | ((first
        | ((with_reducible refine vR_cons (by decide) ?_); generalize hk : KtR _ _ _ _ _ _ _ _ _ _ = k)
        | ((first
        | with_reducible refine vOps_cons' ?_) <;> generalize hk : Kt _ _ _ _ _ _ _ _ _ = k)) <;> (simp only [Try.f19, lv, E1, E2, E5, ET, T, orc_mv, noO_mv, mvB, orc_bx, noO_bx, bxB, orc_sx, noO_sx, sxB, fwd, fwds, inv, mOk, Int.toNat_natCast, Nat.div_one, Nat.mul_one, Int.reduceToNat, SB, List.not_mem_nil, ↓reduceIte, ne_eq, reduceCtorEq, Nat.reduceLT, Nat.reduceEqDiff, Nat.reduceAdd, Nat.reduceMul, Nat.reduceLeDiff, Nat.reduceDiv, Nat.reduceMod, Nat.reduceSub, Nat.reduceBEq, List.length_map, rn_len, nts_len, prs_len, prs_cnt, nts_cnt, rn_cnt10, cnt_two, List.length_set, Int.add_sub_cancel]; (try simp (disch := omega) only [wrap_in, Int.toNat_natCast, tv_rn, tv_nts, tv_prs0, tv_prs1]); subst hk))
    | with_reducible first | refine Kt_p ?_ | refine Kt_i (by kernel_rfl) ?_ | refine Kr_f (by kernel_rfl) ?_
    | (with_reducible refine Kr_t ?_; simp only [List.length_append, List.length_cons, List.length_nil, Nat.reduceAdd, Nat.reduceSub, List.drop_succ_cons, List.drop_zero])
    | with_reducible first | refine vR_nil ?_ | refine KtR_i (by kernel_rfl) ?_ | refine KrR_i (by kernel_rfl) ?_ | refine vR_skip (by decide) ?_
    | ((with_reducible refine vB_i ?_ ?_) <;> intro _ <;> (first | (exfalso; omega) | (exact absurd trivial ‹¬True›) | (try dsimp only [])))
    | ((with_reducible refine vOps_nil' ?_); refine Kr_i (by kernel_rfl) ?_; generalize hk : plain _ _ = G; simp only [lv, E3, E2, E5, rawX, deadX, SB, List.not_mem_nil, ↓reduceIte, ne_eq, reduceCtorEq, Nat.reduceLT, Nat.reduceEqDiff, Nat.reduceAdd, Nat.reduceMul, Nat.reduceLeDiff, Nat.reduceDiv, Nat.reduceMod, Nat.reduceSub, Nat.reduceBEq, List.length_map, rn_len, nts_len, prs_len, prs_cnt, nts_cnt, rn_cnt10, cnt_two, List.length_set, Int.add_sub_cancel] at hk; subst hk)
    | with_reducible refine vSeq_i ?_
    | with_reducible first | refine vRegion_i (by kernel_rfl) ?_ | refine Kv_i ?_
    | ((with_reducible apply vStrK_i); (focus (rfl; done)))
    | ((with_reducible refine imp_i ?_); intro _)
    | with_reducible first | refine Ks_n ?_ | refine Ks_r ?_ | refine Ks_e ?_ | refine Kl_e ?_ | refine Kx_n ?_ | refine Kl_r ?_ | refine vRet_i ?_ | refine vSkip_i ?_ | refine vExit_i ?_ | refine vBlock_i ?_ | refine Ks_p ?_ | refine Kl_p ?_ | refine blk_p ?_ | exact Kb_p | refine vGoto_i ?_ | refine vLabel_i ?_ | refine Ks_g ?_ | refine Kl_g ?_ | refine blk_g ?_ | refine jmp_g ?_ | refine jmp_n ?_ | refine jmp_r ?_ | refine nog_n ?_ | refine nog_r ?_ | refine blk_n ?_ | refine blk_r ?_ | refine blk_e ?_ | refine blk_o (by decide) ?_ | refine cp_t ?_ | refine cp_f ?_
    | ((with_reducible apply vCond_x); (focus (simp only [lv, E1, E2, E5, ET, T, orc_mv, noO_mv, mvB, orc_bx, noO_bx, bxB, orc_sx, noO_sx, sxB, fwd, fwds, inv, mOk, Int.toNat_natCast, Nat.div_one, Nat.mul_one, Int.reduceToNat, SB, List.not_mem_nil, ↓reduceIte, ne_eq, reduceCtorEq, Nat.reduceLT, Nat.reduceEqDiff, Nat.reduceAdd, Nat.reduceMul, Nat.reduceLeDiff, Nat.reduceDiv, Nat.reduceMod, Nat.reduceSub, Nat.reduceBEq, List.length_map, rn_len, nts_len, prs_len, prs_cnt, nts_cnt, rn_cnt10, cnt_two, List.length_set, Int.add_sub_cancel]; with_reducible first | exact Eq.refl (bo true) | exact Eq.refl (bo false))))
    | ((with_reducible refine And.intro ?_ ?_); (focus (try omega)))
  all_goals try (exfalso; omega)
  all_goals refine Kf_r ?_
  all_goals simp only [Try.f19, E4, E3, E2, E5, rawX, deadX, ET, T, SB, List.not_mem_nil, ↓reduceIte, ne_eq, reduceCtorEq, Nat.reduceLT, Nat.reduceEqDiff, Nat.reduceAdd, Nat.reduceMul, Nat.reduceLeDiff, Nat.reduceDiv, Nat.reduceMod, Nat.reduceSub, Nat.reduceBEq, List.length_map, rn_len, nts_len, prs_len, prs_cnt, nts_cnt, rn_cnt10, cnt_two, List.length_set, Int.add_sub_cancel, X.p.injEq, X.tup.injEq, PX.one.injEq, PX.agg.injEq, TV.v.injEq, TV.sr.injEq, SV.raw.injEq, SV.sl.injEq, Value.bool.injEq, Value.int.injEq, List.cons.injEq, Prod.mk.injEq, true_and, and_true, and_self]
  all_goals symm
  · exact decide_eq_true (.inl (by assumption))
  · exact decide_eq_true (.inr (by assumption))
  · exact decide_eq_false (by omega)
set_option maxRecDepth 10000 in
set_option maxHeartbeats 4000000 in
theorem bracketKeeps_law (l u t : List Int) (lev sos : Int) (hl : l.length ≤ 2000000) (hu : u.length ≤ 2000000) (ht : t.length ≤ 2000000) : CallOk Try.prog 6 [txX l u t, i64 lev, i64 sos] (bo true) [] true := by
  have q7 := works_ok
  by_cases hb : l.length ≠ t.length ∨ u.length ≠ t.length ∨ lev < 0 ∨ 126 < lev ∨ (sos ≠ 1 ∧ sos ≠ 2)
  · have q1 := resolve_bad l u t lev sos hl hu ht hb
    refine fn_ok' T_ok (orc_ok _) mixed Try.func6 rfl (by kernel_rfl) (lv [[1, 2, 3], [1, 2, 3, 21], [6], [1, 2, 3, 25], [6], [3, 7, 8], [3, 7, 39], [6], [3, 7, 9, 10], [3, 7, 9, 60], [6], [3, 7, 9, 11], [3, 7, 9, 11, 64, 65, 66], [3, 7, 9, 11, 64, 65, 66, 67], [3, 7, 9, 11, 13, 64, 65, 66], [3, 7, 9, 11, 13, 64, 65, 66, 70, 71], [3, 7, 9, 11, 13, 64, 65, 66, 70, 71, 72], [3, 7, 9, 11, 13, 15, 64, 65, 66, 70, 71], [3, 7, 9, 11, 13, 15, 64, 65, 66, 70, 71], [3, 7, 9, 11, 13, 16, 64, 65, 66, 70, 71], [3, 7, 9, 11, 13, 16, 64, 65, 66, 70, 71, 90], [3, 7, 9, 11, 13, 16, 64, 65, 66, 70, 71], [3, 7, 9, 11, 13, 16, 64, 65, 66, 70, 71], [3, 7, 9, 11, 13, 64, 65, 66, 70, 71], [3, 7, 9, 11, 64, 65, 66, 118], [6], [3, 7, 9, 11, 64, 65, 66], [3, 7, 9, 11, 121, 122], [3, 7, 9, 11, 121, 122, 123], [3, 7, 9, 11, 17, 121, 122], [3, 7, 9, 11, 121, 122, 141], [6], [3, 7, 9, 11, 121, 122], [3, 7, 143, 144, 145], [3, 7, 143, 144, 145, 146], [3, 7, 19, 143, 144, 145], [3, 7, 143, 144, 145, 165], [6], [3, 7, 143, 144, 145], [6]]) 167 rfl (by simp) rfl (by simp [X.all, PX.all, TV.rawR, SV.isRaw]) ?_
    simp only [argsG, Nat.zero_add, Nat.reduceAdd]
    repeat' first
      | ((first
          | ((with_reducible refine vR_cons (by decide) ?_); generalize hk : KtR _ _ _ _ _ _ _ _ _ _ = k)
          | ((first
          | with_reducible refine vOps_cons' ?_
          | ((with_reducible apply orc_i); (focus (exact q1; done)))
          | ((with_reducible apply orc_i); (focus (exact q7; done)))) <;> generalize hk : Kt _ _ _ _ _ _ _ _ _ = k)) <;> (simp only [Try.f6, lv, E1, E2, E5, ET, T, orc_mv, noO_mv, mvB, orc_bx, noO_bx, bxB, orc_sx, noO_sx, sxB, fwd, fwds, inv, mOk, Int.toNat_natCast, Nat.div_one, Nat.mul_one, Int.reduceToNat, SB, List.not_mem_nil, ↓reduceIte, ne_eq, reduceCtorEq, Nat.reduceLT, Nat.reduceEqDiff, Nat.reduceAdd, Nat.reduceMul, Nat.reduceLeDiff, Nat.reduceDiv, Nat.reduceMod, Nat.reduceSub, Nat.reduceBEq, List.length_map, rn_len, nts_len, prs_len, prs_cnt, nts_cnt, rn_cnt10, cnt_two, List.length_set, Int.add_sub_cancel]; (try simp (disch := omega) only [wrap_in, Int.toNat_natCast, tv_rn, tv_nts, tv_prs0, tv_prs1]); subst hk))
      | with_reducible first | refine Kt_p ?_ | refine Kt_i (by kernel_rfl) ?_ | refine Kr_f (by kernel_rfl) ?_
      | (with_reducible refine Kr_t ?_; simp only [List.length_append, List.length_cons, List.length_nil, Nat.reduceAdd, Nat.reduceSub, List.drop_succ_cons, List.drop_zero])
      | with_reducible first | refine vR_nil ?_ | refine KtR_i (by kernel_rfl) ?_ | refine KrR_i (by kernel_rfl) ?_ | refine vR_skip (by decide) ?_
      | ((with_reducible refine vB_i ?_ ?_) <;> intro _ <;> (first | (exfalso; omega) | (exact absurd trivial ‹¬True›) | (try dsimp only [])))
      | ((with_reducible refine vOps_nil' ?_); refine Kr_i (by kernel_rfl) ?_; generalize hk : plain _ _ = G; simp only [lv, E3, E2, E5, rawX, deadX, SB, List.not_mem_nil, ↓reduceIte, ne_eq, reduceCtorEq, Nat.reduceLT, Nat.reduceEqDiff, Nat.reduceAdd, Nat.reduceMul, Nat.reduceLeDiff, Nat.reduceDiv, Nat.reduceMod, Nat.reduceSub, Nat.reduceBEq, List.length_map, rn_len, nts_len, prs_len, prs_cnt, nts_cnt, rn_cnt10, cnt_two, List.length_set, Int.add_sub_cancel] at hk; subst hk)
      | with_reducible refine vSeq_i ?_
      | with_reducible first | refine vRegion_i (by kernel_rfl) ?_ | refine Kv_i ?_
      | ((with_reducible apply vStrK_i); (focus (rfl; done)))
      | ((with_reducible refine imp_i ?_); intro _)
      | with_reducible first | refine Ks_n ?_ | refine Ks_r ?_ | refine Ks_e ?_ | refine Kl_e ?_ | refine Kx_n ?_ | refine Kl_r ?_ | refine vRet_i ?_ | refine vSkip_i ?_ | refine vExit_i ?_ | refine vBlock_i ?_ | refine Ks_p ?_ | refine Kl_p ?_ | refine blk_p ?_ | exact Kb_p | refine vGoto_i ?_ | refine vLabel_i ?_ | refine Ks_g ?_ | refine Kl_g ?_ | refine blk_g ?_ | refine jmp_g ?_ | refine jmp_n ?_ | refine jmp_r ?_ | refine nog_n ?_ | refine nog_r ?_ | refine blk_n ?_ | refine blk_r ?_ | refine blk_e ?_ | refine blk_o (by decide) ?_ | refine cp_t ?_ | refine cp_f ?_
      | ((with_reducible apply vCond_x); (focus (simp only [lv, E1, E2, E5, ET, T, orc_mv, noO_mv, mvB, orc_bx, noO_bx, bxB, orc_sx, noO_sx, sxB, fwd, fwds, inv, mOk, Int.toNat_natCast, Nat.div_one, Nat.mul_one, Int.reduceToNat, SB, List.not_mem_nil, ↓reduceIte, ne_eq, reduceCtorEq, Nat.reduceLT, Nat.reduceEqDiff, Nat.reduceAdd, Nat.reduceMul, Nat.reduceLeDiff, Nat.reduceDiv, Nat.reduceMod, Nat.reduceSub, Nat.reduceBEq, List.length_map, rn_len, nts_len, prs_len, prs_cnt, nts_cnt, rn_cnt10, cnt_two, List.length_set, Int.add_sub_cancel]; with_reducible first | exact Eq.refl (bo true) | exact Eq.refl (bo false))))
      | ((with_reducible refine And.intro ?_ ?_); (focus (try omega)))
    all_goals try (exfalso; omega)
    all_goals refine Kf_r ?_
    all_goals simp only [Try.f6, E4, E3, E2, E5, rawX, deadX, ET, T, SB, List.not_mem_nil, ↓reduceIte, ne_eq, reduceCtorEq, Nat.reduceLT, Nat.reduceEqDiff, Nat.reduceAdd, Nat.reduceMul, Nat.reduceLeDiff, Nat.reduceDiv, Nat.reduceMod, Nat.reduceSub, Nat.reduceBEq, List.length_map, rn_len, nts_len, prs_len, prs_cnt, nts_cnt, rn_cnt10, cnt_two, List.length_set, Int.add_sub_cancel, X.p.injEq, X.tup.injEq, PX.one.injEq, PX.agg.injEq, TV.v.injEq, TV.sr.injEq, SV.raw.injEq, SV.sl.injEq, Value.bool.injEq, Value.int.injEq, List.cons.injEq, Prod.mk.injEq, true_and, and_true, and_self]
  have h1 : u.length = l.length := by omega
  have h2 : t.length = l.length := by omega
  have hs : sos = 1 ∨ sos = 2 := by omega
  cases hf : formedF t with
  | false =>
    have q1 := resolve_unf l u t lev sos hl h1 h2 (by omega) hs hf
    refine fn_ok' T_ok (orc_ok _) mixed Try.func6 rfl (by kernel_rfl) (lv [[1, 2, 3], [1, 2, 3, 21], [6], [1, 2, 3, 25], [6], [3, 7, 8], [3, 7, 39], [6], [3, 7, 9, 10], [3, 7, 9, 60], [6], [3, 7, 9, 11], [3, 7, 9, 11, 64, 65, 66], [3, 7, 9, 11, 64, 65, 66, 67], [3, 7, 9, 11, 13, 64, 65, 66], [3, 7, 9, 11, 13, 64, 65, 66, 70, 71], [3, 7, 9, 11, 13, 64, 65, 66, 70, 71, 72], [3, 7, 9, 11, 13, 15, 64, 65, 66, 70, 71], [3, 7, 9, 11, 13, 15, 64, 65, 66, 70, 71], [3, 7, 9, 11, 13, 16, 64, 65, 66, 70, 71], [3, 7, 9, 11, 13, 16, 64, 65, 66, 70, 71, 90], [3, 7, 9, 11, 13, 16, 64, 65, 66, 70, 71], [3, 7, 9, 11, 13, 16, 64, 65, 66, 70, 71], [3, 7, 9, 11, 13, 64, 65, 66, 70, 71], [3, 7, 9, 11, 64, 65, 66, 118], [6], [3, 7, 9, 11, 64, 65, 66], [3, 7, 9, 11, 121, 122], [3, 7, 9, 11, 121, 122, 123], [3, 7, 9, 11, 17, 121, 122], [3, 7, 9, 11, 121, 122, 141], [6], [3, 7, 9, 11, 121, 122], [3, 7, 143, 144, 145], [3, 7, 143, 144, 145, 146], [3, 7, 19, 143, 144, 145], [3, 7, 143, 144, 145, 165], [6], [3, 7, 143, 144, 145], [6]]) 167 rfl (by simp) rfl (by simp [X.all, PX.all, TV.rawR, SV.isRaw]) ?_
    simp only [argsG, Nat.zero_add, Nat.reduceAdd]
    repeat' first
      | ((first
          | ((with_reducible refine vR_cons (by decide) ?_); generalize hk : KtR _ _ _ _ _ _ _ _ _ _ = k)
          | ((first
          | with_reducible refine vOps_cons' ?_
          | ((with_reducible apply orc_i); (focus (exact q1; done)))
          | ((with_reducible apply orc_i); (focus (exact q7; done)))) <;> generalize hk : Kt _ _ _ _ _ _ _ _ _ = k)) <;> (simp only [Try.f6, lv, E1, E2, E5, ET, T, orc_mv, noO_mv, mvB, orc_bx, noO_bx, bxB, orc_sx, noO_sx, sxB, fwd, fwds, inv, mOk, Int.toNat_natCast, Nat.div_one, Nat.mul_one, Int.reduceToNat, SB, List.not_mem_nil, ↓reduceIte, ne_eq, reduceCtorEq, Nat.reduceLT, Nat.reduceEqDiff, Nat.reduceAdd, Nat.reduceMul, Nat.reduceLeDiff, Nat.reduceDiv, Nat.reduceMod, Nat.reduceSub, Nat.reduceBEq, List.length_map, rn_len, nts_len, prs_len, prs_cnt, nts_cnt, rn_cnt10, cnt_two, List.length_set, Int.add_sub_cancel]; (try simp (disch := omega) only [wrap_in, Int.toNat_natCast, tv_rn, tv_nts, tv_prs0, tv_prs1]); subst hk))
      | with_reducible first | refine Kt_p ?_ | refine Kt_i (by kernel_rfl) ?_ | refine Kr_f (by kernel_rfl) ?_
      | (with_reducible refine Kr_t ?_; simp only [List.length_append, List.length_cons, List.length_nil, Nat.reduceAdd, Nat.reduceSub, List.drop_succ_cons, List.drop_zero])
      | with_reducible first | refine vR_nil ?_ | refine KtR_i (by kernel_rfl) ?_ | refine KrR_i (by kernel_rfl) ?_ | refine vR_skip (by decide) ?_
      | ((with_reducible refine vB_i ?_ ?_) <;> intro _ <;> (first | (exfalso; omega) | (exact absurd trivial ‹¬True›) | (try dsimp only [])))
      | ((with_reducible refine vOps_nil' ?_); refine Kr_i (by kernel_rfl) ?_; generalize hk : plain _ _ = G; simp only [lv, E3, E2, E5, rawX, deadX, SB, List.not_mem_nil, ↓reduceIte, ne_eq, reduceCtorEq, Nat.reduceLT, Nat.reduceEqDiff, Nat.reduceAdd, Nat.reduceMul, Nat.reduceLeDiff, Nat.reduceDiv, Nat.reduceMod, Nat.reduceSub, Nat.reduceBEq, List.length_map, rn_len, nts_len, prs_len, prs_cnt, nts_cnt, rn_cnt10, cnt_two, List.length_set, Int.add_sub_cancel] at hk; subst hk)
      | with_reducible refine vSeq_i ?_
      | with_reducible first | refine vRegion_i (by kernel_rfl) ?_ | refine Kv_i ?_
      | ((with_reducible apply vStrK_i); (focus (rfl; done)))
      | ((with_reducible refine imp_i ?_); intro _)
      | with_reducible first | refine Ks_n ?_ | refine Ks_r ?_ | refine Ks_e ?_ | refine Kl_e ?_ | refine Kx_n ?_ | refine Kl_r ?_ | refine vRet_i ?_ | refine vSkip_i ?_ | refine vExit_i ?_ | refine vBlock_i ?_ | refine Ks_p ?_ | refine Kl_p ?_ | refine blk_p ?_ | exact Kb_p | refine vGoto_i ?_ | refine vLabel_i ?_ | refine Ks_g ?_ | refine Kl_g ?_ | refine blk_g ?_ | refine jmp_g ?_ | refine jmp_n ?_ | refine jmp_r ?_ | refine nog_n ?_ | refine nog_r ?_ | refine blk_n ?_ | refine blk_r ?_ | refine blk_e ?_ | refine blk_o (by decide) ?_ | refine cp_t ?_ | refine cp_f ?_
      | ((with_reducible apply vCond_x); (focus (simp only [lv, E1, E2, E5, ET, T, orc_mv, noO_mv, mvB, orc_bx, noO_bx, bxB, orc_sx, noO_sx, sxB, fwd, fwds, inv, mOk, Int.toNat_natCast, Nat.div_one, Nat.mul_one, Int.reduceToNat, SB, List.not_mem_nil, ↓reduceIte, ne_eq, reduceCtorEq, Nat.reduceLT, Nat.reduceEqDiff, Nat.reduceAdd, Nat.reduceMul, Nat.reduceLeDiff, Nat.reduceDiv, Nat.reduceMod, Nat.reduceSub, Nat.reduceBEq, List.length_map, rn_len, nts_len, prs_len, prs_cnt, nts_cnt, rn_cnt10, cnt_two, List.length_set, Int.add_sub_cancel]; with_reducible first | exact Eq.refl (bo true) | exact Eq.refl (bo false))))
      | ((with_reducible refine And.intro ?_ ?_); (focus (try omega)))
    all_goals try (exfalso; omega)
    all_goals refine Kf_r ?_
    all_goals simp only [Try.f6, E4, E3, E2, E5, rawX, deadX, ET, T, SB, List.not_mem_nil, ↓reduceIte, ne_eq, reduceCtorEq, Nat.reduceLT, Nat.reduceEqDiff, Nat.reduceAdd, Nat.reduceMul, Nat.reduceLeDiff, Nat.reduceDiv, Nat.reduceMod, Nat.reduceSub, Nat.reduceBEq, List.length_map, rn_len, nts_len, prs_len, prs_cnt, nts_cnt, rn_cnt10, cnt_two, List.length_set, Int.add_sub_cancel, X.p.injEq, X.tup.injEq, PX.one.injEq, PX.agg.injEq, TV.v.injEq, TV.sr.injEq, SV.raw.injEq, SV.sl.injEq, Value.bool.injEq, Value.int.injEq, List.cons.injEq, Prod.mk.injEq, true_and, and_true, and_self]
  | true =>
    have he : 1 + lev.tmod 2 = 1 ∨ 1 + lev.tmod 2 = 2 := by rw [Int.tmod_eq_emod_of_nonneg (by omega)]; omega
    have q1 := resolve_good l u t lev sos hl h1 h2 (by omega) hs hf
    have q2 := pairs_ok l t h2 hl
    have hkeep := fun q hq => resF_keep (l := l) (u := u) (t := t) (q := q) he hs h2 hq
    have hpair := fun p hp h8 h9 => resF_pair (l := l) (u := u) (t := t) (e := 1 + lev.tmod 2) (sos := sos) (p := p) h2 hp h8 h9
    obtain ⟨A, hA⟩ : ∃ A, A = resF l u t (1 + lev.tmod 2) sos := ⟨_, rfl⟩
    obtain ⟨P, hP⟩ : ∃ P, P = prsF l t := ⟨_, rfl⟩
    have hPm : ∀ p ∈ P, 0 ≤ p.1 ∧ p.1 < p.2 ∧ p.2 < (l.length : Int) := fun p hp => prsF_mem (hP ▸ hp)
    have hPl : P.length ≤ l.length := hP ▸ prsF_len l t
    have hAl : A.length = t.length := by rw [hA]; exact resF_len
    have hPt : ∀ p ∈ P, t.getD p.1.toNat 0 = 14 := fun p hp => (prsF_pair (hP ▸ hp)).1
    rw [← hA] at q1
    rw [← hP] at q2
    simp only [← hA, ← hP] at hkeep hpair
    refine fn_ok' T_ok (orc_ok _) mixed Try.func6 rfl (by kernel_rfl) (lv [[1, 2, 3], [1, 2, 3, 21], [6], [1, 2, 3, 25], [6], [3, 7, 8], [3, 7, 39], [6], [3, 7, 9, 10], [3, 7, 9, 60], [6], [3, 7, 9, 11], [3, 7, 9, 11, 64, 65, 66], [3, 7, 9, 11, 64, 65, 66, 67], [3, 7, 9, 11, 13, 64, 65, 66], [3, 7, 9, 11, 13, 64, 65, 66, 70, 71], [3, 7, 9, 11, 13, 64, 65, 66, 70, 71, 72], [3, 7, 9, 11, 13, 15, 64, 65, 66, 70, 71], [3, 7, 9, 11, 13, 15, 64, 65, 66, 70, 71], [3, 7, 9, 11, 13, 16, 64, 65, 66, 70, 71], [3, 7, 9, 11, 13, 16, 64, 65, 66, 70, 71, 90], [3, 7, 9, 11, 13, 16, 64, 65, 66, 70, 71], [3, 7, 9, 11, 13, 16, 64, 65, 66, 70, 71], [3, 7, 9, 11, 13, 64, 65, 66, 70, 71], [3, 7, 9, 11, 64, 65, 66, 118], [6], [3, 7, 9, 11, 64, 65, 66], [3, 7, 9, 11, 121, 122], [3, 7, 9, 11, 121, 122, 123], [3, 7, 9, 11, 17, 121, 122], [3, 7, 9, 11, 121, 122, 141], [6], [3, 7, 9, 11, 121, 122], [3, 7, 143, 144, 145], [3, 7, 143, 144, 145, 146], [3, 7, 19, 143, 144, 145], [3, 7, 143, 144, 145, 165], [6], [3, 7, 143, 144, 145], [6]]) 167 rfl (by simp) rfl (by simp [X.all, PX.all, TV.rawR, SV.isRaw]) ?_
    simp only [argsG, Nat.zero_add, Nat.reduceAdd]
    repeat' first
      | ((first
          | ((with_reducible refine vR_cons (by decide) ?_); generalize hk : KtR _ _ _ _ _ _ _ _ _ _ = k)
          | ((first
          | with_reducible refine vOps_cons' ?_
          | ((with_reducible apply orc_i); (focus (exact q1; done)))
          | ((with_reducible apply orc_i); (focus (exact q2; done)))
          | ((with_reducible apply orc_i); (focus (exact q7; done)))) <;> generalize hk : Kt _ _ _ _ _ _ _ _ _ = k)) <;> (simp only [Try.f6, lv, E1, E2, E5, ET, T, orc_mv, noO_mv, mvB, orc_bx, noO_bx, bxB, orc_sx, noO_sx, sxB, fwd, fwds, inv, mOk, Int.toNat_natCast, Nat.div_one, Nat.mul_one, Int.reduceToNat, SB, List.not_mem_nil, ↓reduceIte, ne_eq, reduceCtorEq, Nat.reduceLT, Nat.reduceEqDiff, Nat.reduceAdd, Nat.reduceMul, Nat.reduceLeDiff, Nat.reduceDiv, Nat.reduceMod, Nat.reduceSub, Nat.reduceBEq, List.length_map, rn_len, nts_len, prs_len, prs_cnt, nts_cnt, rn_cnt10, cnt_two, List.length_set, Int.add_sub_cancel]; (try simp (disch := omega) only [wrap_in, Int.toNat_natCast, tv_rn, tv_nts, tv_prs0, tv_prs1]); subst hk))
      | with_reducible first | refine Kt_p ?_ | refine Kt_i (by kernel_rfl) ?_ | refine Kr_f (by kernel_rfl) ?_
      | (with_reducible refine Kr_t ?_; simp only [List.length_append, List.length_cons, List.length_nil, Nat.reduceAdd, Nat.reduceSub, List.drop_succ_cons, List.drop_zero])
      | with_reducible first | refine vR_nil ?_ | refine KtR_i (by kernel_rfl) ?_ | refine KrR_i (by kernel_rfl) ?_ | refine vR_skip (by decide) ?_
      | ((with_reducible refine vB_i ?_ ?_) <;> intro _ <;> (first | (exfalso; omega) | (exact absurd trivial ‹¬True›) | (try dsimp only [])))
      | ((with_reducible refine vOps_nil' ?_); refine Kr_i (by kernel_rfl) ?_; generalize hk : plain _ _ = G; simp only [lv, E3, E2, E5, rawX, deadX, SB, List.not_mem_nil, ↓reduceIte, ne_eq, reduceCtorEq, Nat.reduceLT, Nat.reduceEqDiff, Nat.reduceAdd, Nat.reduceMul, Nat.reduceLeDiff, Nat.reduceDiv, Nat.reduceMod, Nat.reduceSub, Nat.reduceBEq, List.length_map, rn_len, nts_len, prs_len, prs_cnt, nts_cnt, rn_cnt10, cnt_two, List.length_set, Int.add_sub_cancel] at hk; subst hk)
      | with_reducible refine vSeq_i ?_
      | with_reducible first | refine vRegion_i (by kernel_rfl) ?_ | refine Kv_i ?_
      | ((with_reducible apply vStrK_i); (focus (rfl; done)))
      | ((with_reducible refine imp_i ?_); intro _)
      | with_reducible first | refine Ks_n ?_ | refine Ks_r ?_ | refine Ks_e ?_ | refine Kl_e ?_ | refine Kx_n ?_ | refine Kl_r ?_ | refine vRet_i ?_ | refine vSkip_i ?_ | refine vExit_i ?_ | refine vBlock_i ?_ | refine Ks_p ?_ | refine Kl_p ?_ | refine blk_p ?_ | exact Kb_p | refine vGoto_i ?_ | refine vLabel_i ?_ | refine Ks_g ?_ | refine Kl_g ?_ | refine blk_g ?_ | refine jmp_g ?_ | refine jmp_n ?_ | refine jmp_r ?_ | refine nog_n ?_ | refine nog_r ?_ | refine blk_n ?_ | refine blk_r ?_ | refine blk_e ?_ | refine blk_o (by decide) ?_ | refine cp_t ?_ | refine cp_f ?_
      | ((with_reducible apply vCond_x); (focus (simp only [lv, E1, E2, E5, ET, T, orc_mv, noO_mv, mvB, orc_bx, noO_bx, bxB, orc_sx, noO_sx, sxB, fwd, fwds, inv, mOk, Int.toNat_natCast, Nat.div_one, Nat.mul_one, Int.reduceToNat, SB, List.not_mem_nil, ↓reduceIte, ne_eq, reduceCtorEq, Nat.reduceLT, Nat.reduceEqDiff, Nat.reduceAdd, Nat.reduceMul, Nat.reduceLeDiff, Nat.reduceDiv, Nat.reduceMod, Nat.reduceSub, Nat.reduceBEq, List.length_map, rn_len, nts_len, prs_len, prs_cnt, nts_cnt, rn_cnt10, cnt_two, List.length_set, Int.add_sub_cancel]; with_reducible first | exact Eq.refl (bo true) | exact Eq.refl (bo false))))
      | ((with_reducible refine And.intro ?_ ?_); (focus (try omega)))
    all_goals try (exfalso; omega)
    · refine Kf_r ?_
      simp only [Try.f6, E4, E3, E2, E5, rawX, deadX, ET, T, SB, List.not_mem_nil, ↓reduceIte, ne_eq, reduceCtorEq, Nat.reduceLT, Nat.reduceEqDiff, Nat.reduceAdd, Nat.reduceMul, Nat.reduceLeDiff, Nat.reduceDiv, Nat.reduceMod, Nat.reduceSub, Nat.reduceBEq, List.length_map, rn_len, nts_len, prs_len, prs_cnt, nts_cnt, rn_cnt10, cnt_two, List.length_set, Int.add_sub_cancel, X.p.injEq, X.tup.injEq, PX.one.injEq, PX.agg.injEq, TV.v.injEq, TV.sr.injEq, SV.raw.injEq, SV.sl.injEq, Value.bool.injEq, Value.int.injEq, List.cons.injEq, Prod.mk.injEq, true_and, and_true, and_self]
    rename_i hl2 hAl2
    obtain ⟨M, hM⟩ : ∃ M : Nat → List Int, M = fun k => (P.take k).foldl (mrkF u) (List.replicate t.length 0) := ⟨_, rfl⟩
    have hM0 : M 0 = List.replicate t.length 0 := by rw [hM]; rfl
    have hMl : ∀ k, (M k).length = t.length := fun k => by rw [hM]; show ((P.take k).foldl (mrkF u) _).length = _; rw [mfold_len, List.length_replicate]
    have hMs : ∀ k, k < P.length → M (k + 1) = mrkF u (M k) (P.getD k (0, 0)) := fun k h => by rw [hM]; exact mfold_take h
    have hMe : M P.length = P.foldl (mrkF u) (List.replicate t.length 0) := by rw [hM]; show (P.take P.length).foldl _ _ = _; rw [List.take_length]
    rw [← hMe] at hkeep
    clear hM
    refine vLoop_s (fun k : Nat => [(.t 3, .t (.p (.one (.pr 0 0)))), (.t 7, .t (.p (.one (.sr 1)))), (.t 9, .t (.p (.one (.sr 2)))), (.t 11, .t (.p (.one (.sr 3)))), (.t 64, .t (.p (.one (.sr 2)))), (.t 65, .t (i64 P.length)), (.t 66, .t (i64 k)), (.box 0, .box 36 [.v (.sl 1 (rn l)), .v (.sl 1 (nts u)), .v (.sl 1 (nts t))]), (.row 1, .row 3 1 (nts A)), (.row 2, .row 42 2 (prs P)), (.row 3, .row 3 1 (nts (M k)))]) (fun k => k ≤ P.length) (fun k => P.length - k) 0 (by omega) (by rw [hM0, hAl, nts_rep]; rfl) ?_
    rintro k hk
    have hMk := hMl k
    by_cases hkl : k < P.length
    · have hmem : P.getD k (0, 0) ∈ P := by rw [List.getD_eq_getElem?_getD, List.getElem?_eq_getElem hkl]; exact List.getElem_mem hkl
      have hpm := hPm _ hmem
      have hms := hMs k hkl
      have hpt := hPt _ hmem
      have hkp := (hkeep (P.getD k (0, 0)).1.toNat (by omega)).2
      obtain ⟨a, ha⟩ : ∃ a : Nat, (P.getD k (0, 0)).1 = (a : Int) := ⟨(P.getD k (0, 0)).1.toNat, by omega⟩
      obtain ⟨b, hb⟩ : ∃ b : Nat, (P.getD k (0, 0)).2 = (b : Int) := ⟨(P.getD k (0, 0)).2.toNat, by omega⟩
      rw [ha, hb] at hpm
      simp only [mrkF, ha, hb, Int.toNat_natCast] at hms hkp hpt
      rw [hpt] at hkp
      obtain ⟨now, hnow⟩ : ∃ now, now = M k := ⟨_, rfl⟩
      rw [← hnow] at hms hMk ⊢
      repeat' first
        | ((first
            | ((with_reducible refine vR_cons (by decide) ?_); generalize hk : KtR _ _ _ _ _ _ _ _ _ _ = k)
            | ((first
            | with_reducible refine vOps_cons' ?_) <;> generalize hk : Kt _ _ _ _ _ _ _ _ _ = k)) <;> (simp only [Try.f6, lv, E1, E2, E5, ET, T, orc_mv, noO_mv, mvB, orc_bx, noO_bx, bxB, orc_sx, noO_sx, sxB, fwd, fwds, inv, mOk, Int.toNat_natCast, Nat.div_one, Nat.mul_one, Int.reduceToNat, SB, List.not_mem_nil, ↓reduceIte, ne_eq, reduceCtorEq, Nat.reduceLT, Nat.reduceEqDiff, Nat.reduceAdd, Nat.reduceMul, Nat.reduceLeDiff, Nat.reduceDiv, Nat.reduceMod, Nat.reduceSub, Nat.reduceBEq, List.length_map, rn_len, nts_len, prs_len, prs_cnt, nts_cnt, rn_cnt10, cnt_two, List.length_set, Int.add_sub_cancel]; (try simp (disch := omega) only [wrap_in, Int.toNat_natCast, tv_rn, tv_nts, tv_prs0, tv_prs1]); subst hk))
        | with_reducible first | refine Kt_p ?_ | refine Kt_i (by kernel_rfl) ?_ | refine Kr_f (by kernel_rfl) ?_
        | (with_reducible refine Kr_t ?_; simp only [List.length_append, List.length_cons, List.length_nil, Nat.reduceAdd, Nat.reduceSub, List.drop_succ_cons, List.drop_zero])
        | with_reducible first | refine vR_nil ?_ | refine KtR_i (by kernel_rfl) ?_ | refine KrR_i (by kernel_rfl) ?_ | refine vR_skip (by decide) ?_
        | ((with_reducible refine vB_i ?_ ?_) <;> intro _ <;> (first | (exfalso; omega) | (exact absurd trivial ‹¬True›) | (try dsimp only [])))
        | ((with_reducible refine vOps_nil' ?_); refine Kr_i (by kernel_rfl) ?_; generalize hk : plain _ _ = G; simp only [lv, E3, E2, E5, rawX, deadX, SB, List.not_mem_nil, ↓reduceIte, ne_eq, reduceCtorEq, Nat.reduceLT, Nat.reduceEqDiff, Nat.reduceAdd, Nat.reduceMul, Nat.reduceLeDiff, Nat.reduceDiv, Nat.reduceMod, Nat.reduceSub, Nat.reduceBEq, List.length_map, rn_len, nts_len, prs_len, prs_cnt, nts_cnt, rn_cnt10, cnt_two, List.length_set, Int.add_sub_cancel] at hk; subst hk)
        | with_reducible refine vSeq_i ?_
        | with_reducible first | refine vRegion_i (by kernel_rfl) ?_ | refine Kv_i ?_
        | ((with_reducible apply vStrK_i); (focus (rfl; done)))
        | ((with_reducible refine imp_i ?_); intro _)
        | with_reducible first | refine Ks_n ?_ | refine Ks_r ?_ | refine Ks_e ?_ | refine Kl_e ?_ | refine Kx_n ?_ | refine Kl_r ?_ | refine vRet_i ?_ | refine vSkip_i ?_ | refine vExit_i ?_ | refine vBlock_i ?_ | refine Ks_p ?_ | refine Kl_p ?_ | refine blk_p ?_ | exact Kb_p | refine vGoto_i ?_ | refine vLabel_i ?_ | refine Ks_g ?_ | refine Kl_g ?_ | refine blk_g ?_ | refine jmp_g ?_ | refine jmp_n ?_ | refine jmp_r ?_ | refine nog_n ?_ | refine nog_r ?_ | refine blk_n ?_ | refine blk_r ?_ | refine blk_e ?_ | refine blk_o (by decide) ?_ | refine cp_t ?_ | refine cp_f ?_
        | ((with_reducible apply vCond_x); (focus (simp only [lv, E1, E2, E5, ET, T, orc_mv, noO_mv, mvB, orc_bx, noO_bx, bxB, orc_sx, noO_sx, sxB, fwd, fwds, inv, mOk, Int.toNat_natCast, Nat.div_one, Nat.mul_one, Int.reduceToNat, SB, List.not_mem_nil, ↓reduceIte, ne_eq, reduceCtorEq, Nat.reduceLT, Nat.reduceEqDiff, Nat.reduceAdd, Nat.reduceMul, Nat.reduceLeDiff, Nat.reduceDiv, Nat.reduceMod, Nat.reduceSub, Nat.reduceBEq, List.length_map, rn_len, nts_len, prs_len, prs_cnt, nts_cnt, rn_cnt10, cnt_two, List.length_set, Int.add_sub_cancel]; with_reducible first | exact Eq.refl (bo true) | exact Eq.refl (bo false))))
        | ((with_reducible refine And.intro ?_ ?_); (focus (try omega)))
      all_goals try (exfalso; omega)
      simp only [ha, hb]
      refine vLoop_s (fun j : Nat => [(.t 3, .t (.p (.one (.pr 0 0)))), (.t 7, .t (.p (.one (.sr 1)))), (.t 9, .t (.p (.one (.sr 2)))), (.t 11, .t (.p (.one (.sr 3)))), (.t 13, .t (.p (.one (.pr 4 0)))), (.t 64, .t (.p (.one (.sr 2)))), (.t 65, .t (i64 P.length)), (.t 66, .t (i64 k)), (.t 70, .t (pr2 a b)), (.t 71, .t (i64 j)), (.box 0, .box 36 [.v (.sl 1 (rn l)), .v (.sl 1 (nts u)), .v (.sl 1 (nts t))]), (.row 1, .row 3 1 (nts A)), (.row 2, .row 42 2 (prs P)), (.row 3, .row 3 1 (nts (if j = 0 then now else if j = 1 then putF u 1 a now else putF u 1 b (putF u 1 a now)))), (.box 4, .box 42 [.v (.raw (.int .i64 a)), .v (.raw (.int .i64 b))])]) (fun j => j ≤ 2) (fun j => 2 - j) 0 (by omega) rfl ?_
      rintro j hj
      obtain rfl | rfl | rfl : j = 0 ∨ j = 1 ∨ j = 2 := by omega
      · skip
        simp only [Nat.reduceAdd, Nat.reduceEqDiff, if_true, if_false, Nat.one_ne_zero]
        have hML : (now).length = t.length := by first | exact hMk | (rw [put_len]; exact hMk)
        repeat' first
          | ((first
              | ((with_reducible refine vR_cons (by decide) ?_); generalize hk : KtR _ _ _ _ _ _ _ _ _ _ = k)
              | ((first
              | with_reducible refine vOps_cons' ?_) <;> generalize hk : Kt _ _ _ _ _ _ _ _ _ = k)) <;> (simp only [Try.f6, lv, E1, E2, E5, ET, T, orc_mv, noO_mv, mvB, orc_bx, noO_bx, bxB, orc_sx, noO_sx, sxB, fwd, fwds, inv, mOk, Int.toNat_natCast, Nat.div_one, Nat.mul_one, Int.reduceToNat, SB, List.not_mem_nil, ↓reduceIte, ne_eq, reduceCtorEq, Nat.reduceLT, Nat.reduceEqDiff, Nat.reduceAdd, Nat.reduceMul, Nat.reduceLeDiff, Nat.reduceDiv, Nat.reduceMod, Nat.reduceSub, Nat.reduceBEq, List.length_map, rn_len, nts_len, prs_len, prs_cnt, nts_cnt, rn_cnt10, cnt_two, List.length_set, Int.add_sub_cancel]; (try simp (disch := omega) only [wrap_in, Int.toNat_natCast, tv_rn, tv_nts, tv_prs0, tv_prs1]); subst hk))
          | with_reducible first | refine Kt_p ?_ | refine Kt_i (by kernel_rfl) ?_ | refine Kr_f (by kernel_rfl) ?_
          | (with_reducible refine Kr_t ?_; simp only [List.length_append, List.length_cons, List.length_nil, Nat.reduceAdd, Nat.reduceSub, List.drop_succ_cons, List.drop_zero])
          | with_reducible first | refine vR_nil ?_ | refine KtR_i (by kernel_rfl) ?_ | refine KrR_i (by kernel_rfl) ?_ | refine vR_skip (by decide) ?_
          | ((with_reducible refine vB_i ?_ ?_) <;> intro _ <;> (first | (exfalso; omega) | (exact absurd trivial ‹¬True›) | (try dsimp only [])))
          | ((with_reducible refine vOps_nil' ?_); refine Kr_i (by kernel_rfl) ?_; generalize hk : plain _ _ = G; simp only [lv, E3, E2, E5, rawX, deadX, SB, List.not_mem_nil, ↓reduceIte, ne_eq, reduceCtorEq, Nat.reduceLT, Nat.reduceEqDiff, Nat.reduceAdd, Nat.reduceMul, Nat.reduceLeDiff, Nat.reduceDiv, Nat.reduceMod, Nat.reduceSub, Nat.reduceBEq, List.length_map, rn_len, nts_len, prs_len, prs_cnt, nts_cnt, rn_cnt10, cnt_two, List.length_set, Int.add_sub_cancel] at hk; subst hk)
          | with_reducible refine vSeq_i ?_
          | with_reducible first | refine vRegion_i (by kernel_rfl) ?_ | refine Kv_i ?_
          | ((with_reducible apply vStrK_i); (focus (rfl; done)))
          | ((with_reducible refine imp_i ?_); intro _)
          | with_reducible first | refine Ks_n ?_ | refine Ks_r ?_ | refine Ks_e ?_ | refine Kl_e ?_ | refine Kx_n ?_ | refine Kl_r ?_ | refine vRet_i ?_ | refine vSkip_i ?_ | refine vExit_i ?_ | refine vBlock_i ?_ | refine Ks_p ?_ | refine Kl_p ?_ | refine blk_p ?_ | exact Kb_p | refine vGoto_i ?_ | refine vLabel_i ?_ | refine Ks_g ?_ | refine Kl_g ?_ | refine blk_g ?_ | refine jmp_g ?_ | refine jmp_n ?_ | refine jmp_r ?_ | refine nog_n ?_ | refine nog_r ?_ | refine blk_n ?_ | refine blk_r ?_ | refine blk_e ?_ | refine blk_o (by decide) ?_ | refine cp_t ?_ | refine cp_f ?_
          | ((with_reducible apply vCond_x); (focus (simp only [lv, E1, E2, E5, ET, T, orc_mv, noO_mv, mvB, orc_bx, noO_bx, bxB, orc_sx, noO_sx, sxB, fwd, fwds, inv, mOk, Int.toNat_natCast, Nat.div_one, Nat.mul_one, Int.reduceToNat, SB, List.not_mem_nil, ↓reduceIte, ne_eq, reduceCtorEq, Nat.reduceLT, Nat.reduceEqDiff, Nat.reduceAdd, Nat.reduceMul, Nat.reduceLeDiff, Nat.reduceDiv, Nat.reduceMod, Nat.reduceSub, Nat.reduceBEq, List.length_map, rn_len, nts_len, prs_len, prs_cnt, nts_cnt, rn_cnt10, cnt_two, List.length_set, Int.add_sub_cancel]; with_reducible first | exact Eq.refl (bo true) | exact Eq.refl (bo false))))
          | ((with_reducible refine And.intro ?_ ?_); (focus (try omega)))
        all_goals try (exfalso; omega)
        refine vLoop_s (fun z : Nat × List Int => [(.t 3, .t (.p (.one (.pr 0 0)))), (.t 7, .t (.p (.one (.sr 1)))), (.t 9, .t (.p (.one (.sr 2)))), (.t 11, .t (.p (.one (.sr 3)))), (.t 13, .t (.p (.one (.pr 4 0)))), (.t 16, .t (i64 z.1)), (.t 64, .t (.p (.one (.sr 2)))), (.t 65, .t (i64 P.length)), (.t 66, .t (i64 k)), (.t 70, .t (pr2 a b)), (.t 71, .t (i64 ((0 : Nat) : Int))), (.box 0, .box 36 [.v (.sl 1 (rn l)), .v (.sl 1 (nts u)), .v (.sl 1 (nts t))]), (.row 1, .row 3 1 (nts A)), (.row 2, .row 42 2 (prs P)), (.row 3, .row 3 1 (nts z.2)), (.box 4, .box 42 [.v (.raw (.int .i64 a)), .v (.raw (.int .i64 b))])]) (fun z => z.1 ≤ t.length ∧ z.2.length = t.length ∧ spr u 1 (t.length - z.1) z.1 z.2 = putF u 1 a (now)) (fun z => t.length - z.1) (a + 1, (now).set a 1) ⟨by show a + 1 ≤ t.length; omega, by rw [List.length_set]; exact hML, by rw [show putF u 1 a (now) = spr u 1 ((now).length - (a + 1)) (a + 1) ((now).set a 1) from rfl, hML]⟩ (by rw [← nts_upd (by omega)]; simp only [Int.natCast_add, Int.natCast_one]) ?_
        rintro ⟨z, M'⟩ ⟨hz, hM', hsp⟩
        simp only [] at hz hM' hsp
        repeat' first
          | ((first
              | ((with_reducible refine vR_cons (by decide) ?_); generalize hk : KtR _ _ _ _ _ _ _ _ _ _ = k)
              | ((first
              | with_reducible refine vOps_cons' ?_) <;> generalize hk : Kt _ _ _ _ _ _ _ _ _ = k)) <;> (simp only [Try.f6, lv, E1, E2, E5, ET, T, orc_mv, noO_mv, mvB, orc_bx, noO_bx, bxB, orc_sx, noO_sx, sxB, fwd, fwds, inv, mOk, Int.toNat_natCast, Nat.div_one, Nat.mul_one, Int.reduceToNat, SB, List.not_mem_nil, ↓reduceIte, ne_eq, reduceCtorEq, Nat.reduceLT, Nat.reduceEqDiff, Nat.reduceAdd, Nat.reduceMul, Nat.reduceLeDiff, Nat.reduceDiv, Nat.reduceMod, Nat.reduceSub, Nat.reduceBEq, List.length_map, rn_len, nts_len, prs_len, prs_cnt, nts_cnt, rn_cnt10, cnt_two, List.length_set, Int.add_sub_cancel]; (try simp (disch := omega) only [wrap_in, Int.toNat_natCast, tv_rn, tv_nts, tv_prs0, tv_prs1]); subst hk))
          | with_reducible first | refine Kt_p ?_ | refine Kt_i (by kernel_rfl) ?_ | refine Kr_f (by kernel_rfl) ?_
          | (with_reducible refine Kr_t ?_; simp only [List.length_append, List.length_cons, List.length_nil, Nat.reduceAdd, Nat.reduceSub, List.drop_succ_cons, List.drop_zero])
          | with_reducible first | refine vR_nil ?_ | refine KtR_i (by kernel_rfl) ?_ | refine KrR_i (by kernel_rfl) ?_ | refine vR_skip (by decide) ?_
          | ((with_reducible refine vB_i ?_ ?_) <;> intro _ <;> (first | (exfalso; omega) | (exact absurd trivial ‹¬True›) | (try dsimp only [])))
          | ((with_reducible refine vOps_nil' ?_); refine Kr_i (by kernel_rfl) ?_; generalize hk : plain _ _ = G; simp only [lv, E3, E2, E5, rawX, deadX, SB, List.not_mem_nil, ↓reduceIte, ne_eq, reduceCtorEq, Nat.reduceLT, Nat.reduceEqDiff, Nat.reduceAdd, Nat.reduceMul, Nat.reduceLeDiff, Nat.reduceDiv, Nat.reduceMod, Nat.reduceSub, Nat.reduceBEq, List.length_map, rn_len, nts_len, prs_len, prs_cnt, nts_cnt, rn_cnt10, cnt_two, List.length_set, Int.add_sub_cancel] at hk; subst hk)
          | with_reducible refine vSeq_i ?_
          | with_reducible first | refine vRegion_i (by kernel_rfl) ?_ | refine Kv_i ?_
          | ((with_reducible apply vStrK_i); (focus (rfl; done)))
          | ((with_reducible refine imp_i ?_); intro _)
          | with_reducible first | refine Ks_n ?_ | refine Ks_r ?_ | refine Ks_e ?_ | refine Kl_e ?_ | refine Kx_n ?_ | refine Kl_r ?_ | refine vRet_i ?_ | refine vSkip_i ?_ | refine vExit_i ?_ | refine vBlock_i ?_ | refine Ks_p ?_ | refine Kl_p ?_ | refine blk_p ?_ | exact Kb_p | refine vGoto_i ?_ | refine vLabel_i ?_ | refine Ks_g ?_ | refine Kl_g ?_ | refine blk_g ?_ | refine jmp_g ?_ | refine jmp_n ?_ | refine jmp_r ?_ | refine nog_n ?_ | refine nog_r ?_ | refine blk_n ?_ | refine blk_r ?_ | refine blk_e ?_ | refine blk_o (by decide) ?_ | refine cp_t ?_ | refine cp_f ?_
          | ((with_reducible apply vCond_x); (focus (simp only [lv, E1, E2, E5, ET, T, orc_mv, noO_mv, mvB, orc_bx, noO_bx, bxB, orc_sx, noO_sx, sxB, fwd, fwds, inv, mOk, Int.toNat_natCast, Nat.div_one, Nat.mul_one, Int.reduceToNat, SB, List.not_mem_nil, ↓reduceIte, ne_eq, reduceCtorEq, Nat.reduceLT, Nat.reduceEqDiff, Nat.reduceAdd, Nat.reduceMul, Nat.reduceLeDiff, Nat.reduceDiv, Nat.reduceMod, Nat.reduceSub, Nat.reduceBEq, List.length_map, rn_len, nts_len, prs_len, prs_cnt, nts_cnt, rn_cnt10, cnt_two, List.length_set, Int.add_sub_cancel]; with_reducible first | exact Eq.refl (bo true) | exact Eq.refl (bo false))))
          | ((with_reducible refine And.intro ?_ ?_); (focus (try omega)))
        all_goals try (exfalso; omega)
        · rename_i q1 q2
          rw [show t.length - z = (t.length - (z + 1)) + 1 by omega, spr, if_pos q2] at hsp
          exact Kl_n ⟨(z + 1, M'.set z 1), ⟨by show z + 1 ≤ t.length; omega, by rw [List.length_set]; exact hM', hsp⟩, by show t.length - (z + 1) < t.length - z; omega, by rw [← nts_upd (by omega)]; simp only [Int.natCast_add, Int.natCast_one]⟩
        · rename_i q1 q2
          rw [show t.length - z = (t.length - (z + 1)) + 1 by omega, spr, if_neg q2] at hsp
          exact Kl_n ⟨0 + 1, by omega, by omega, by rw [hsp]; rfl⟩
        · rename_i q1
          rw [show t.length - z = 0 by omega, spr] at hsp
          exact Kl_n ⟨0 + 1, by omega, by omega, by rw [hsp]; rfl⟩
      · skip
        simp only [Nat.reduceAdd, Nat.reduceEqDiff, if_true, if_false, Nat.one_ne_zero]
        have hML : (putF u 1 a now).length = t.length := by first | exact hMk | (rw [put_len]; exact hMk)
        repeat' first
          | ((first
              | ((with_reducible refine vR_cons (by decide) ?_); generalize hk : KtR _ _ _ _ _ _ _ _ _ _ = k)
              | ((first
              | with_reducible refine vOps_cons' ?_) <;> generalize hk : Kt _ _ _ _ _ _ _ _ _ = k)) <;> (simp only [Try.f6, lv, E1, E2, E5, ET, T, orc_mv, noO_mv, mvB, orc_bx, noO_bx, bxB, orc_sx, noO_sx, sxB, fwd, fwds, inv, mOk, Int.toNat_natCast, Nat.div_one, Nat.mul_one, Int.reduceToNat, SB, List.not_mem_nil, ↓reduceIte, ne_eq, reduceCtorEq, Nat.reduceLT, Nat.reduceEqDiff, Nat.reduceAdd, Nat.reduceMul, Nat.reduceLeDiff, Nat.reduceDiv, Nat.reduceMod, Nat.reduceSub, Nat.reduceBEq, List.length_map, rn_len, nts_len, prs_len, prs_cnt, nts_cnt, rn_cnt10, cnt_two, List.length_set, Int.add_sub_cancel]; (try simp (disch := omega) only [wrap_in, Int.toNat_natCast, tv_rn, tv_nts, tv_prs0, tv_prs1]); subst hk))
          | with_reducible first | refine Kt_p ?_ | refine Kt_i (by kernel_rfl) ?_ | refine Kr_f (by kernel_rfl) ?_
          | (with_reducible refine Kr_t ?_; simp only [List.length_append, List.length_cons, List.length_nil, Nat.reduceAdd, Nat.reduceSub, List.drop_succ_cons, List.drop_zero])
          | with_reducible first | refine vR_nil ?_ | refine KtR_i (by kernel_rfl) ?_ | refine KrR_i (by kernel_rfl) ?_ | refine vR_skip (by decide) ?_
          | ((with_reducible refine vB_i ?_ ?_) <;> intro _ <;> (first | (exfalso; omega) | (exact absurd trivial ‹¬True›) | (try dsimp only [])))
          | ((with_reducible refine vOps_nil' ?_); refine Kr_i (by kernel_rfl) ?_; generalize hk : plain _ _ = G; simp only [lv, E3, E2, E5, rawX, deadX, SB, List.not_mem_nil, ↓reduceIte, ne_eq, reduceCtorEq, Nat.reduceLT, Nat.reduceEqDiff, Nat.reduceAdd, Nat.reduceMul, Nat.reduceLeDiff, Nat.reduceDiv, Nat.reduceMod, Nat.reduceSub, Nat.reduceBEq, List.length_map, rn_len, nts_len, prs_len, prs_cnt, nts_cnt, rn_cnt10, cnt_two, List.length_set, Int.add_sub_cancel] at hk; subst hk)
          | with_reducible refine vSeq_i ?_
          | with_reducible first | refine vRegion_i (by kernel_rfl) ?_ | refine Kv_i ?_
          | ((with_reducible apply vStrK_i); (focus (rfl; done)))
          | ((with_reducible refine imp_i ?_); intro _)
          | with_reducible first | refine Ks_n ?_ | refine Ks_r ?_ | refine Ks_e ?_ | refine Kl_e ?_ | refine Kx_n ?_ | refine Kl_r ?_ | refine vRet_i ?_ | refine vSkip_i ?_ | refine vExit_i ?_ | refine vBlock_i ?_ | refine Ks_p ?_ | refine Kl_p ?_ | refine blk_p ?_ | exact Kb_p | refine vGoto_i ?_ | refine vLabel_i ?_ | refine Ks_g ?_ | refine Kl_g ?_ | refine blk_g ?_ | refine jmp_g ?_ | refine jmp_n ?_ | refine jmp_r ?_ | refine nog_n ?_ | refine nog_r ?_ | refine blk_n ?_ | refine blk_r ?_ | refine blk_e ?_ | refine blk_o (by decide) ?_ | refine cp_t ?_ | refine cp_f ?_
          | ((with_reducible apply vCond_x); (focus (simp only [lv, E1, E2, E5, ET, T, orc_mv, noO_mv, mvB, orc_bx, noO_bx, bxB, orc_sx, noO_sx, sxB, fwd, fwds, inv, mOk, Int.toNat_natCast, Nat.div_one, Nat.mul_one, Int.reduceToNat, SB, List.not_mem_nil, ↓reduceIte, ne_eq, reduceCtorEq, Nat.reduceLT, Nat.reduceEqDiff, Nat.reduceAdd, Nat.reduceMul, Nat.reduceLeDiff, Nat.reduceDiv, Nat.reduceMod, Nat.reduceSub, Nat.reduceBEq, List.length_map, rn_len, nts_len, prs_len, prs_cnt, nts_cnt, rn_cnt10, cnt_two, List.length_set, Int.add_sub_cancel]; with_reducible first | exact Eq.refl (bo true) | exact Eq.refl (bo false))))
          | ((with_reducible refine And.intro ?_ ?_); (focus (try omega)))
        all_goals try (exfalso; omega)
        refine vLoop_s (fun z : Nat × List Int => [(.t 3, .t (.p (.one (.pr 0 0)))), (.t 7, .t (.p (.one (.sr 1)))), (.t 9, .t (.p (.one (.sr 2)))), (.t 11, .t (.p (.one (.sr 3)))), (.t 13, .t (.p (.one (.pr 4 0)))), (.t 16, .t (i64 z.1)), (.t 64, .t (.p (.one (.sr 2)))), (.t 65, .t (i64 P.length)), (.t 66, .t (i64 k)), (.t 70, .t (pr2 a b)), (.t 71, .t (i64 ((1 : Nat) : Int))), (.box 0, .box 36 [.v (.sl 1 (rn l)), .v (.sl 1 (nts u)), .v (.sl 1 (nts t))]), (.row 1, .row 3 1 (nts A)), (.row 2, .row 42 2 (prs P)), (.row 3, .row 3 1 (nts z.2)), (.box 4, .box 42 [.v (.raw (.int .i64 a)), .v (.raw (.int .i64 b))])]) (fun z => z.1 ≤ t.length ∧ z.2.length = t.length ∧ spr u 1 (t.length - z.1) z.1 z.2 = putF u 1 b (putF u 1 a now)) (fun z => t.length - z.1) (b + 1, (putF u 1 a now).set b 1) ⟨by show b + 1 ≤ t.length; omega, by rw [List.length_set]; exact hML, by rw [show putF u 1 b (putF u 1 a now) = spr u 1 ((putF u 1 a now).length - (b + 1)) (b + 1) ((putF u 1 a now).set b 1) from rfl, hML]⟩ (by rw [← nts_upd (by omega)]; simp only [Int.natCast_add, Int.natCast_one]) ?_
        rintro ⟨z, M'⟩ ⟨hz, hM', hsp⟩
        simp only [] at hz hM' hsp
        repeat' first
          | ((first
              | ((with_reducible refine vR_cons (by decide) ?_); generalize hk : KtR _ _ _ _ _ _ _ _ _ _ = k)
              | ((first
              | with_reducible refine vOps_cons' ?_) <;> generalize hk : Kt _ _ _ _ _ _ _ _ _ = k)) <;> (simp only [Try.f6, lv, E1, E2, E5, ET, T, orc_mv, noO_mv, mvB, orc_bx, noO_bx, bxB, orc_sx, noO_sx, sxB, fwd, fwds, inv, mOk, Int.toNat_natCast, Nat.div_one, Nat.mul_one, Int.reduceToNat, SB, List.not_mem_nil, ↓reduceIte, ne_eq, reduceCtorEq, Nat.reduceLT, Nat.reduceEqDiff, Nat.reduceAdd, Nat.reduceMul, Nat.reduceLeDiff, Nat.reduceDiv, Nat.reduceMod, Nat.reduceSub, Nat.reduceBEq, List.length_map, rn_len, nts_len, prs_len, prs_cnt, nts_cnt, rn_cnt10, cnt_two, List.length_set, Int.add_sub_cancel]; (try simp (disch := omega) only [wrap_in, Int.toNat_natCast, tv_rn, tv_nts, tv_prs0, tv_prs1]); subst hk))
          | with_reducible first | refine Kt_p ?_ | refine Kt_i (by kernel_rfl) ?_ | refine Kr_f (by kernel_rfl) ?_
          | (with_reducible refine Kr_t ?_; simp only [List.length_append, List.length_cons, List.length_nil, Nat.reduceAdd, Nat.reduceSub, List.drop_succ_cons, List.drop_zero])
          | with_reducible first | refine vR_nil ?_ | refine KtR_i (by kernel_rfl) ?_ | refine KrR_i (by kernel_rfl) ?_ | refine vR_skip (by decide) ?_
          | ((with_reducible refine vB_i ?_ ?_) <;> intro _ <;> (first | (exfalso; omega) | (exact absurd trivial ‹¬True›) | (try dsimp only [])))
          | ((with_reducible refine vOps_nil' ?_); refine Kr_i (by kernel_rfl) ?_; generalize hk : plain _ _ = G; simp only [lv, E3, E2, E5, rawX, deadX, SB, List.not_mem_nil, ↓reduceIte, ne_eq, reduceCtorEq, Nat.reduceLT, Nat.reduceEqDiff, Nat.reduceAdd, Nat.reduceMul, Nat.reduceLeDiff, Nat.reduceDiv, Nat.reduceMod, Nat.reduceSub, Nat.reduceBEq, List.length_map, rn_len, nts_len, prs_len, prs_cnt, nts_cnt, rn_cnt10, cnt_two, List.length_set, Int.add_sub_cancel] at hk; subst hk)
          | with_reducible refine vSeq_i ?_
          | with_reducible first | refine vRegion_i (by kernel_rfl) ?_ | refine Kv_i ?_
          | ((with_reducible apply vStrK_i); (focus (rfl; done)))
          | ((with_reducible refine imp_i ?_); intro _)
          | with_reducible first | refine Ks_n ?_ | refine Ks_r ?_ | refine Ks_e ?_ | refine Kl_e ?_ | refine Kx_n ?_ | refine Kl_r ?_ | refine vRet_i ?_ | refine vSkip_i ?_ | refine vExit_i ?_ | refine vBlock_i ?_ | refine Ks_p ?_ | refine Kl_p ?_ | refine blk_p ?_ | exact Kb_p | refine vGoto_i ?_ | refine vLabel_i ?_ | refine Ks_g ?_ | refine Kl_g ?_ | refine blk_g ?_ | refine jmp_g ?_ | refine jmp_n ?_ | refine jmp_r ?_ | refine nog_n ?_ | refine nog_r ?_ | refine blk_n ?_ | refine blk_r ?_ | refine blk_e ?_ | refine blk_o (by decide) ?_ | refine cp_t ?_ | refine cp_f ?_
          | ((with_reducible apply vCond_x); (focus (simp only [lv, E1, E2, E5, ET, T, orc_mv, noO_mv, mvB, orc_bx, noO_bx, bxB, orc_sx, noO_sx, sxB, fwd, fwds, inv, mOk, Int.toNat_natCast, Nat.div_one, Nat.mul_one, Int.reduceToNat, SB, List.not_mem_nil, ↓reduceIte, ne_eq, reduceCtorEq, Nat.reduceLT, Nat.reduceEqDiff, Nat.reduceAdd, Nat.reduceMul, Nat.reduceLeDiff, Nat.reduceDiv, Nat.reduceMod, Nat.reduceSub, Nat.reduceBEq, List.length_map, rn_len, nts_len, prs_len, prs_cnt, nts_cnt, rn_cnt10, cnt_two, List.length_set, Int.add_sub_cancel]; with_reducible first | exact Eq.refl (bo true) | exact Eq.refl (bo false))))
          | ((with_reducible refine And.intro ?_ ?_); (focus (try omega)))
        all_goals try (exfalso; omega)
        · rename_i q1 q2
          rw [show t.length - z = (t.length - (z + 1)) + 1 by omega, spr, if_pos q2] at hsp
          exact Kl_n ⟨(z + 1, M'.set z 1), ⟨by show z + 1 ≤ t.length; omega, by rw [List.length_set]; exact hM', hsp⟩, by show t.length - (z + 1) < t.length - z; omega, by rw [← nts_upd (by omega)]; simp only [Int.natCast_add, Int.natCast_one]⟩
        · rename_i q1 q2
          rw [show t.length - z = (t.length - (z + 1)) + 1 by omega, spr, if_neg q2] at hsp
          exact Kl_n ⟨1 + 1, by omega, by omega, by rw [hsp]; rfl⟩
        · rename_i q1
          rw [show t.length - z = 0 by omega, spr] at hsp
          exact Kl_n ⟨1 + 1, by omega, by omega, by rw [hsp]; rfl⟩
      · skip
        simp only [Nat.reduceEqDiff, if_false, Nat.succ_ne_zero]
        repeat' first
          | ((first
              | ((with_reducible refine vR_cons (by decide) ?_); generalize hk : KtR _ _ _ _ _ _ _ _ _ _ = k)
              | ((first
              | with_reducible refine vOps_cons' ?_) <;> generalize hk : Kt _ _ _ _ _ _ _ _ _ = k)) <;> (simp only [Try.f6, lv, E1, E2, E5, ET, T, orc_mv, noO_mv, mvB, orc_bx, noO_bx, bxB, orc_sx, noO_sx, sxB, fwd, fwds, inv, mOk, Int.toNat_natCast, Nat.div_one, Nat.mul_one, Int.reduceToNat, SB, List.not_mem_nil, ↓reduceIte, ne_eq, reduceCtorEq, Nat.reduceLT, Nat.reduceEqDiff, Nat.reduceAdd, Nat.reduceMul, Nat.reduceLeDiff, Nat.reduceDiv, Nat.reduceMod, Nat.reduceSub, Nat.reduceBEq, List.length_map, rn_len, nts_len, prs_len, prs_cnt, nts_cnt, rn_cnt10, cnt_two, List.length_set, Int.add_sub_cancel]; (try simp (disch := omega) only [wrap_in, Int.toNat_natCast, tv_rn, tv_nts, tv_prs0, tv_prs1]); subst hk))
          | with_reducible first | refine Kt_p ?_ | refine Kt_i (by kernel_rfl) ?_ | refine Kr_f (by kernel_rfl) ?_
          | (with_reducible refine Kr_t ?_; simp only [List.length_append, List.length_cons, List.length_nil, Nat.reduceAdd, Nat.reduceSub, List.drop_succ_cons, List.drop_zero])
          | with_reducible first | refine vR_nil ?_ | refine KtR_i (by kernel_rfl) ?_ | refine KrR_i (by kernel_rfl) ?_ | refine vR_skip (by decide) ?_
          | ((with_reducible refine vB_i ?_ ?_) <;> intro _ <;> (first | (exfalso; omega) | (exact absurd trivial ‹¬True›) | (try dsimp only [])))
          | ((with_reducible refine vOps_nil' ?_); refine Kr_i (by kernel_rfl) ?_; generalize hk : plain _ _ = G; simp only [lv, E3, E2, E5, rawX, deadX, SB, List.not_mem_nil, ↓reduceIte, ne_eq, reduceCtorEq, Nat.reduceLT, Nat.reduceEqDiff, Nat.reduceAdd, Nat.reduceMul, Nat.reduceLeDiff, Nat.reduceDiv, Nat.reduceMod, Nat.reduceSub, Nat.reduceBEq, List.length_map, rn_len, nts_len, prs_len, prs_cnt, nts_cnt, rn_cnt10, cnt_two, List.length_set, Int.add_sub_cancel] at hk; subst hk)
          | with_reducible refine vSeq_i ?_
          | with_reducible first | refine vRegion_i (by kernel_rfl) ?_ | refine Kv_i ?_
          | ((with_reducible apply vStrK_i); (focus (rfl; done)))
          | ((with_reducible refine imp_i ?_); intro _)
          | with_reducible first | refine Ks_n ?_ | refine Ks_r ?_ | refine Ks_e ?_ | refine Kl_e ?_ | refine Kx_n ?_ | refine Kl_r ?_ | refine vRet_i ?_ | refine vSkip_i ?_ | refine vExit_i ?_ | refine vBlock_i ?_ | refine Ks_p ?_ | refine Kl_p ?_ | refine blk_p ?_ | exact Kb_p | refine vGoto_i ?_ | refine vLabel_i ?_ | refine Ks_g ?_ | refine Kl_g ?_ | refine blk_g ?_ | refine jmp_g ?_ | refine jmp_n ?_ | refine jmp_r ?_ | refine nog_n ?_ | refine nog_r ?_ | refine blk_n ?_ | refine blk_r ?_ | refine blk_e ?_ | refine blk_o (by decide) ?_ | refine cp_t ?_ | refine cp_f ?_
          | ((with_reducible apply vCond_x); (focus (simp only [lv, E1, E2, E5, ET, T, orc_mv, noO_mv, mvB, orc_bx, noO_bx, bxB, orc_sx, noO_sx, sxB, fwd, fwds, inv, mOk, Int.toNat_natCast, Nat.div_one, Nat.mul_one, Int.reduceToNat, SB, List.not_mem_nil, ↓reduceIte, ne_eq, reduceCtorEq, Nat.reduceLT, Nat.reduceEqDiff, Nat.reduceAdd, Nat.reduceMul, Nat.reduceLeDiff, Nat.reduceDiv, Nat.reduceMod, Nat.reduceSub, Nat.reduceBEq, List.length_map, rn_len, nts_len, prs_len, prs_cnt, nts_cnt, rn_cnt10, cnt_two, List.length_set, Int.add_sub_cancel]; with_reducible first | exact Eq.refl (bo true) | exact Eq.refl (bo false))))
          | ((with_reducible refine And.intro ?_ ?_); (focus (try omega)))
        all_goals try (exfalso; omega)
        all_goals exact Kl_n ⟨k + 1, by omega, by omega, by simp only [Int.natCast_add, Int.natCast_one, hms]⟩
    · obtain rfl : k = P.length := by omega
      repeat' first
        | ((first
            | ((with_reducible refine vR_cons (by decide) ?_); generalize hk : KtR _ _ _ _ _ _ _ _ _ _ = k)
            | ((first
            | with_reducible refine vOps_cons' ?_) <;> generalize hk : Kt _ _ _ _ _ _ _ _ _ = k)) <;> (simp only [Try.f6, lv, E1, E2, E5, ET, T, orc_mv, noO_mv, mvB, orc_bx, noO_bx, bxB, orc_sx, noO_sx, sxB, fwd, fwds, inv, mOk, Int.toNat_natCast, Nat.div_one, Nat.mul_one, Int.reduceToNat, SB, List.not_mem_nil, ↓reduceIte, ne_eq, reduceCtorEq, Nat.reduceLT, Nat.reduceEqDiff, Nat.reduceAdd, Nat.reduceMul, Nat.reduceLeDiff, Nat.reduceDiv, Nat.reduceMod, Nat.reduceSub, Nat.reduceBEq, List.length_map, rn_len, nts_len, prs_len, prs_cnt, nts_cnt, rn_cnt10, cnt_two, List.length_set, Int.add_sub_cancel]; (try simp (disch := omega) only [wrap_in, Int.toNat_natCast, tv_rn, tv_nts, tv_prs0, tv_prs1]); subst hk))
        | with_reducible first | refine Kt_p ?_ | refine Kt_i (by kernel_rfl) ?_ | refine Kr_f (by kernel_rfl) ?_
        | (with_reducible refine Kr_t ?_; simp only [List.length_append, List.length_cons, List.length_nil, Nat.reduceAdd, Nat.reduceSub, List.drop_succ_cons, List.drop_zero])
        | with_reducible first | refine vR_nil ?_ | refine KtR_i (by kernel_rfl) ?_ | refine KrR_i (by kernel_rfl) ?_ | refine vR_skip (by decide) ?_
        | ((with_reducible refine vB_i ?_ ?_) <;> intro _ <;> (first | (exfalso; omega) | (exact absurd trivial ‹¬True›) | (try dsimp only [])))
        | ((with_reducible refine vOps_nil' ?_); refine Kr_i (by kernel_rfl) ?_; generalize hk : plain _ _ = G; simp only [lv, E3, E2, E5, rawX, deadX, SB, List.not_mem_nil, ↓reduceIte, ne_eq, reduceCtorEq, Nat.reduceLT, Nat.reduceEqDiff, Nat.reduceAdd, Nat.reduceMul, Nat.reduceLeDiff, Nat.reduceDiv, Nat.reduceMod, Nat.reduceSub, Nat.reduceBEq, List.length_map, rn_len, nts_len, prs_len, prs_cnt, nts_cnt, rn_cnt10, cnt_two, List.length_set, Int.add_sub_cancel] at hk; subst hk)
        | with_reducible refine vSeq_i ?_
        | with_reducible first | refine vRegion_i (by kernel_rfl) ?_ | refine Kv_i ?_
        | ((with_reducible apply vStrK_i); (focus (rfl; done)))
        | ((with_reducible refine imp_i ?_); intro _)
        | with_reducible first | refine Ks_n ?_ | refine Ks_r ?_ | refine Ks_e ?_ | refine Kl_e ?_ | refine Kx_n ?_ | refine Kl_r ?_ | refine vRet_i ?_ | refine vSkip_i ?_ | refine vExit_i ?_ | refine vBlock_i ?_ | refine Ks_p ?_ | refine Kl_p ?_ | refine blk_p ?_ | exact Kb_p | refine vGoto_i ?_ | refine vLabel_i ?_ | refine Ks_g ?_ | refine Kl_g ?_ | refine blk_g ?_ | refine jmp_g ?_ | refine jmp_n ?_ | refine jmp_r ?_ | refine nog_n ?_ | refine nog_r ?_ | refine blk_n ?_ | refine blk_r ?_ | refine blk_e ?_ | refine blk_o (by decide) ?_ | refine cp_t ?_ | refine cp_f ?_
        | ((with_reducible apply vCond_x); (focus (simp only [lv, E1, E2, E5, ET, T, orc_mv, noO_mv, mvB, orc_bx, noO_bx, bxB, orc_sx, noO_sx, sxB, fwd, fwds, inv, mOk, Int.toNat_natCast, Nat.div_one, Nat.mul_one, Int.reduceToNat, SB, List.not_mem_nil, ↓reduceIte, ne_eq, reduceCtorEq, Nat.reduceLT, Nat.reduceEqDiff, Nat.reduceAdd, Nat.reduceMul, Nat.reduceLeDiff, Nat.reduceDiv, Nat.reduceMod, Nat.reduceSub, Nat.reduceBEq, List.length_map, rn_len, nts_len, prs_len, prs_cnt, nts_cnt, rn_cnt10, cnt_two, List.length_set, Int.add_sub_cancel]; with_reducible first | exact Eq.refl (bo true) | exact Eq.refl (bo false))))
        | ((with_reducible refine And.intro ?_ ?_); (focus (try omega)))
      all_goals try (exfalso; omega)
      refine vLoop_s (fun i : Nat => [(.t 3, .t (.p (.one (.pr 0 0)))), (.t 7, .t (.p (.one (.sr 1)))), (.t 9, .t (.p (.one (.sr 2)))), (.t 11, .t (.p (.one (.sr 3)))), (.t 121, .t (i64 A.length)), (.t 122, .t (i64 i)), (.box 0, .box 36 [.v (.sl 1 (rn l)), .v (.sl 1 (nts u)), .v (.sl 1 (nts t))]), (.row 1, .row 3 1 (nts A)), (.row 2, .row 42 2 (prs P)), (.row 3, .row 3 1 (nts (M P.length)))]) (fun i => i ≤ A.length) (fun i => A.length - i) 0 (by omega) rfl ?_
      rintro i hi
      by_cases hil : i < A.length
      · have hke := (hkeep i (by omega)).1
        repeat' first
          | ((first
              | ((with_reducible refine vR_cons (by decide) ?_); generalize hk : KtR _ _ _ _ _ _ _ _ _ _ = k)
              | ((first
              | with_reducible refine vOps_cons' ?_) <;> generalize hk : Kt _ _ _ _ _ _ _ _ _ = k)) <;> (simp only [Try.f6, lv, E1, E2, E5, ET, T, orc_mv, noO_mv, mvB, orc_bx, noO_bx, bxB, orc_sx, noO_sx, sxB, fwd, fwds, inv, mOk, Int.toNat_natCast, Nat.div_one, Nat.mul_one, Int.reduceToNat, SB, List.not_mem_nil, ↓reduceIte, ne_eq, reduceCtorEq, Nat.reduceLT, Nat.reduceEqDiff, Nat.reduceAdd, Nat.reduceMul, Nat.reduceLeDiff, Nat.reduceDiv, Nat.reduceMod, Nat.reduceSub, Nat.reduceBEq, List.length_map, rn_len, nts_len, prs_len, prs_cnt, nts_cnt, rn_cnt10, cnt_two, List.length_set, Int.add_sub_cancel]; (try simp (disch := omega) only [wrap_in, Int.toNat_natCast, tv_rn, tv_nts, tv_prs0, tv_prs1]); subst hk))
          | with_reducible first | refine Kt_p ?_ | refine Kt_i (by kernel_rfl) ?_ | refine Kr_f (by kernel_rfl) ?_
          | (with_reducible refine Kr_t ?_; simp only [List.length_append, List.length_cons, List.length_nil, Nat.reduceAdd, Nat.reduceSub, List.drop_succ_cons, List.drop_zero])
          | with_reducible first | refine vR_nil ?_ | refine KtR_i (by kernel_rfl) ?_ | refine KrR_i (by kernel_rfl) ?_ | refine vR_skip (by decide) ?_
          | ((with_reducible refine vB_i ?_ ?_) <;> intro _ <;> (first | (exfalso; omega) | (exact absurd trivial ‹¬True›) | (try dsimp only [])))
          | ((with_reducible refine vOps_nil' ?_); refine Kr_i (by kernel_rfl) ?_; generalize hk : plain _ _ = G; simp only [lv, E3, E2, E5, rawX, deadX, SB, List.not_mem_nil, ↓reduceIte, ne_eq, reduceCtorEq, Nat.reduceLT, Nat.reduceEqDiff, Nat.reduceAdd, Nat.reduceMul, Nat.reduceLeDiff, Nat.reduceDiv, Nat.reduceMod, Nat.reduceSub, Nat.reduceBEq, List.length_map, rn_len, nts_len, prs_len, prs_cnt, nts_cnt, rn_cnt10, cnt_two, List.length_set, Int.add_sub_cancel] at hk; subst hk)
          | with_reducible refine vSeq_i ?_
          | with_reducible first | refine vRegion_i (by kernel_rfl) ?_ | refine Kv_i ?_
          | ((with_reducible apply vStrK_i); (focus (rfl; done)))
          | ((with_reducible refine imp_i ?_); intro _)
          | with_reducible first | refine Ks_n ?_ | refine Ks_r ?_ | refine Ks_e ?_ | refine Kl_e ?_ | refine Kx_n ?_ | refine Kl_r ?_ | refine vRet_i ?_ | refine vSkip_i ?_ | refine vExit_i ?_ | refine vBlock_i ?_ | refine Ks_p ?_ | refine Kl_p ?_ | refine blk_p ?_ | exact Kb_p | refine vGoto_i ?_ | refine vLabel_i ?_ | refine Ks_g ?_ | refine Kl_g ?_ | refine blk_g ?_ | refine jmp_g ?_ | refine jmp_n ?_ | refine jmp_r ?_ | refine nog_n ?_ | refine nog_r ?_ | refine blk_n ?_ | refine blk_r ?_ | refine blk_e ?_ | refine blk_o (by decide) ?_ | refine cp_t ?_ | refine cp_f ?_
          | ((with_reducible apply vCond_x); (focus (simp only [lv, E1, E2, E5, ET, T, orc_mv, noO_mv, mvB, orc_bx, noO_bx, bxB, orc_sx, noO_sx, sxB, fwd, fwds, inv, mOk, Int.toNat_natCast, Nat.div_one, Nat.mul_one, Int.reduceToNat, SB, List.not_mem_nil, ↓reduceIte, ne_eq, reduceCtorEq, Nat.reduceLT, Nat.reduceEqDiff, Nat.reduceAdd, Nat.reduceMul, Nat.reduceLeDiff, Nat.reduceDiv, Nat.reduceMod, Nat.reduceSub, Nat.reduceBEq, List.length_map, rn_len, nts_len, prs_len, prs_cnt, nts_cnt, rn_cnt10, cnt_two, List.length_set, Int.add_sub_cancel]; with_reducible first | exact Eq.refl (bo true) | exact Eq.refl (bo false))))
          | ((with_reducible refine And.intro ?_ ?_); (focus (try omega)))
        all_goals try (exfalso; omega)
        all_goals exact Kl_n ⟨i + 1, by omega, by omega, by simp only [Int.natCast_add, Int.natCast_one]⟩
      · skip
        repeat' first
          | ((first
              | ((with_reducible refine vR_cons (by decide) ?_); generalize hk : KtR _ _ _ _ _ _ _ _ _ _ = k)
              | ((first
              | with_reducible refine vOps_cons' ?_) <;> generalize hk : Kt _ _ _ _ _ _ _ _ _ = k)) <;> (simp only [Try.f6, lv, E1, E2, E5, ET, T, orc_mv, noO_mv, mvB, orc_bx, noO_bx, bxB, orc_sx, noO_sx, sxB, fwd, fwds, inv, mOk, Int.toNat_natCast, Nat.div_one, Nat.mul_one, Int.reduceToNat, SB, List.not_mem_nil, ↓reduceIte, ne_eq, reduceCtorEq, Nat.reduceLT, Nat.reduceEqDiff, Nat.reduceAdd, Nat.reduceMul, Nat.reduceLeDiff, Nat.reduceDiv, Nat.reduceMod, Nat.reduceSub, Nat.reduceBEq, List.length_map, rn_len, nts_len, prs_len, prs_cnt, nts_cnt, rn_cnt10, cnt_two, List.length_set, Int.add_sub_cancel]; (try simp (disch := omega) only [wrap_in, Int.toNat_natCast, tv_rn, tv_nts, tv_prs0, tv_prs1]); subst hk))
          | with_reducible first | refine Kt_p ?_ | refine Kt_i (by kernel_rfl) ?_ | refine Kr_f (by kernel_rfl) ?_
          | (with_reducible refine Kr_t ?_; simp only [List.length_append, List.length_cons, List.length_nil, Nat.reduceAdd, Nat.reduceSub, List.drop_succ_cons, List.drop_zero])
          | with_reducible first | refine vR_nil ?_ | refine KtR_i (by kernel_rfl) ?_ | refine KrR_i (by kernel_rfl) ?_ | refine vR_skip (by decide) ?_
          | ((with_reducible refine vB_i ?_ ?_) <;> intro _ <;> (first | (exfalso; omega) | (exact absurd trivial ‹¬True›) | (try dsimp only [])))
          | ((with_reducible refine vOps_nil' ?_); refine Kr_i (by kernel_rfl) ?_; generalize hk : plain _ _ = G; simp only [lv, E3, E2, E5, rawX, deadX, SB, List.not_mem_nil, ↓reduceIte, ne_eq, reduceCtorEq, Nat.reduceLT, Nat.reduceEqDiff, Nat.reduceAdd, Nat.reduceMul, Nat.reduceLeDiff, Nat.reduceDiv, Nat.reduceMod, Nat.reduceSub, Nat.reduceBEq, List.length_map, rn_len, nts_len, prs_len, prs_cnt, nts_cnt, rn_cnt10, cnt_two, List.length_set, Int.add_sub_cancel] at hk; subst hk)
          | with_reducible refine vSeq_i ?_
          | with_reducible first | refine vRegion_i (by kernel_rfl) ?_ | refine Kv_i ?_
          | ((with_reducible apply vStrK_i); (focus (rfl; done)))
          | ((with_reducible refine imp_i ?_); intro _)
          | with_reducible first | refine Ks_n ?_ | refine Ks_r ?_ | refine Ks_e ?_ | refine Kl_e ?_ | refine Kx_n ?_ | refine Kl_r ?_ | refine vRet_i ?_ | refine vSkip_i ?_ | refine vExit_i ?_ | refine vBlock_i ?_ | refine Ks_p ?_ | refine Kl_p ?_ | refine blk_p ?_ | exact Kb_p | refine vGoto_i ?_ | refine vLabel_i ?_ | refine Ks_g ?_ | refine Kl_g ?_ | refine blk_g ?_ | refine jmp_g ?_ | refine jmp_n ?_ | refine jmp_r ?_ | refine nog_n ?_ | refine nog_r ?_ | refine blk_n ?_ | refine blk_r ?_ | refine blk_e ?_ | refine blk_o (by decide) ?_ | refine cp_t ?_ | refine cp_f ?_
          | ((with_reducible apply vCond_x); (focus (simp only [lv, E1, E2, E5, ET, T, orc_mv, noO_mv, mvB, orc_bx, noO_bx, bxB, orc_sx, noO_sx, sxB, fwd, fwds, inv, mOk, Int.toNat_natCast, Nat.div_one, Nat.mul_one, Int.reduceToNat, SB, List.not_mem_nil, ↓reduceIte, ne_eq, reduceCtorEq, Nat.reduceLT, Nat.reduceEqDiff, Nat.reduceAdd, Nat.reduceMul, Nat.reduceLeDiff, Nat.reduceDiv, Nat.reduceMod, Nat.reduceSub, Nat.reduceBEq, List.length_map, rn_len, nts_len, prs_len, prs_cnt, nts_cnt, rn_cnt10, cnt_two, List.length_set, Int.add_sub_cancel]; with_reducible first | exact Eq.refl (bo true) | exact Eq.refl (bo false))))
          | ((with_reducible refine And.intro ?_ ?_); (focus (try omega)))
        all_goals try (exfalso; omega)
        refine vLoop_s (fun k : Nat => [(.t 3, .t (.p (.one (.pr 0 0)))), (.t 7, .t (.p (.one (.sr 1)))), (.t 143, .t (.p (.one (.sr 2)))), (.t 144, .t (i64 P.length)), (.t 145, .t (i64 k)), (.box 0, .box 36 [.v (.sl 1 (rn l)), .v (.sl 1 (nts u)), .v (.sl 1 (nts t))]), (.row 1, .row 3 1 (nts A)), (.row 2, .row 42 2 (prs P))]) (fun k => k ≤ P.length) (fun k => P.length - k) 0 (by omega) rfl ?_
        rintro k hk3
        by_cases hk4 : k < P.length
        · have hmem : P.getD k (0, 0) ∈ P := by rw [List.getD_eq_getElem?_getD, List.getElem?_eq_getElem hk4]; exact List.getElem_mem hk4
          have hpm := hPm _ hmem
          have hpq := hpair _ hmem
          obtain ⟨a, ha⟩ : ∃ a : Nat, (P.getD k (0, 0)).1 = (a : Int) := ⟨(P.getD k (0, 0)).1.toNat, by omega⟩
          obtain ⟨b, hb⟩ : ∃ b : Nat, (P.getD k (0, 0)).2 = (b : Int) := ⟨(P.getD k (0, 0)).2.toNat, by omega⟩
          rw [ha, hb] at hpm
          simp only [ha, hb, Int.toNat_natCast] at hpq
          have hmk := marked_ok l u t a b (by omega) (by omega) (by omega)
          by_cases h9 : u.getD a 0 = 9 ∨ u.getD b 0 = 9
          · rw [decide_eq_true h9] at hmk
            repeat' first
              | ((first
                  | ((with_reducible refine vR_cons (by decide) ?_); generalize hk : KtR _ _ _ _ _ _ _ _ _ _ = k)
                  | ((first
                  | with_reducible refine vOps_cons' ?_
                  | ((with_reducible apply orc_i); (focus ((simp only [ha, hb]; exact hmk); done)))) <;> generalize hk : Kt _ _ _ _ _ _ _ _ _ = k)) <;> (simp only [Try.f6, lv, E1, E2, E5, ET, T, orc_mv, noO_mv, mvB, orc_bx, noO_bx, bxB, orc_sx, noO_sx, sxB, fwd, fwds, inv, mOk, Int.toNat_natCast, Nat.div_one, Nat.mul_one, Int.reduceToNat, SB, List.not_mem_nil, ↓reduceIte, ne_eq, reduceCtorEq, Nat.reduceLT, Nat.reduceEqDiff, Nat.reduceAdd, Nat.reduceMul, Nat.reduceLeDiff, Nat.reduceDiv, Nat.reduceMod, Nat.reduceSub, Nat.reduceBEq, List.length_map, rn_len, nts_len, prs_len, prs_cnt, nts_cnt, rn_cnt10, cnt_two, List.length_set, Int.add_sub_cancel]; (try simp (disch := omega) only [wrap_in, Int.toNat_natCast, tv_rn, tv_nts, tv_prs0, tv_prs1]); subst hk))
              | with_reducible first | refine Kt_p ?_ | refine Kt_i (by kernel_rfl) ?_ | refine Kr_f (by kernel_rfl) ?_
              | (with_reducible refine Kr_t ?_; simp only [List.length_append, List.length_cons, List.length_nil, Nat.reduceAdd, Nat.reduceSub, List.drop_succ_cons, List.drop_zero])
              | with_reducible first | refine vR_nil ?_ | refine KtR_i (by kernel_rfl) ?_ | refine KrR_i (by kernel_rfl) ?_ | refine vR_skip (by decide) ?_
              | ((with_reducible refine vB_i ?_ ?_) <;> intro _ <;> (first | (exfalso; omega) | (exact absurd trivial ‹¬True›) | (try dsimp only [])))
              | ((with_reducible refine vOps_nil' ?_); refine Kr_i (by kernel_rfl) ?_; generalize hk : plain _ _ = G; simp only [lv, E3, E2, E5, rawX, deadX, SB, List.not_mem_nil, ↓reduceIte, ne_eq, reduceCtorEq, Nat.reduceLT, Nat.reduceEqDiff, Nat.reduceAdd, Nat.reduceMul, Nat.reduceLeDiff, Nat.reduceDiv, Nat.reduceMod, Nat.reduceSub, Nat.reduceBEq, List.length_map, rn_len, nts_len, prs_len, prs_cnt, nts_cnt, rn_cnt10, cnt_two, List.length_set, Int.add_sub_cancel] at hk; subst hk)
              | with_reducible refine vSeq_i ?_
              | with_reducible first | refine vRegion_i (by kernel_rfl) ?_ | refine Kv_i ?_
              | ((with_reducible apply vStrK_i); (focus (rfl; done)))
              | ((with_reducible refine imp_i ?_); intro _)
              | with_reducible first | refine Ks_n ?_ | refine Ks_r ?_ | refine Ks_e ?_ | refine Kl_e ?_ | refine Kx_n ?_ | refine Kl_r ?_ | refine vRet_i ?_ | refine vSkip_i ?_ | refine vExit_i ?_ | refine vBlock_i ?_ | refine Ks_p ?_ | refine Kl_p ?_ | refine blk_p ?_ | exact Kb_p | refine vGoto_i ?_ | refine vLabel_i ?_ | refine Ks_g ?_ | refine Kl_g ?_ | refine blk_g ?_ | refine jmp_g ?_ | refine jmp_n ?_ | refine jmp_r ?_ | refine nog_n ?_ | refine nog_r ?_ | refine blk_n ?_ | refine blk_r ?_ | refine blk_e ?_ | refine blk_o (by decide) ?_ | refine cp_t ?_ | refine cp_f ?_
              | ((with_reducible apply vCond_x); (focus (simp only [lv, E1, E2, E5, ET, T, orc_mv, noO_mv, mvB, orc_bx, noO_bx, bxB, orc_sx, noO_sx, sxB, fwd, fwds, inv, mOk, Int.toNat_natCast, Nat.div_one, Nat.mul_one, Int.reduceToNat, SB, List.not_mem_nil, ↓reduceIte, ne_eq, reduceCtorEq, Nat.reduceLT, Nat.reduceEqDiff, Nat.reduceAdd, Nat.reduceMul, Nat.reduceLeDiff, Nat.reduceDiv, Nat.reduceMod, Nat.reduceSub, Nat.reduceBEq, List.length_map, rn_len, nts_len, prs_len, prs_cnt, nts_cnt, rn_cnt10, cnt_two, List.length_set, Int.add_sub_cancel]; with_reducible first | exact Eq.refl (bo true) | exact Eq.refl (bo false))))
              | ((with_reducible refine And.intro ?_ ?_); (focus (try omega)))
            all_goals try (exfalso; omega)
            all_goals exact Kl_n ⟨k + 1, by omega, by omega, by simp only [Int.natCast_add, Int.natCast_one]⟩
          · rw [decide_eq_false h9] at hmk
            have hpq := hpq (fun h => h9 (.inl h)) (fun h => h9 (.inr h))
            repeat' first
              | ((first
                  | ((with_reducible refine vR_cons (by decide) ?_); generalize hk : KtR _ _ _ _ _ _ _ _ _ _ = k)
                  | ((first
                  | with_reducible refine vOps_cons' ?_
                  | ((with_reducible apply orc_i); (focus ((simp only [ha, hb]; exact hmk); done)))) <;> generalize hk : Kt _ _ _ _ _ _ _ _ _ = k)) <;> (simp only [Try.f6, lv, E1, E2, E5, ET, T, orc_mv, noO_mv, mvB, orc_bx, noO_bx, bxB, orc_sx, noO_sx, sxB, fwd, fwds, inv, mOk, Int.toNat_natCast, Nat.div_one, Nat.mul_one, Int.reduceToNat, SB, List.not_mem_nil, ↓reduceIte, ne_eq, reduceCtorEq, Nat.reduceLT, Nat.reduceEqDiff, Nat.reduceAdd, Nat.reduceMul, Nat.reduceLeDiff, Nat.reduceDiv, Nat.reduceMod, Nat.reduceSub, Nat.reduceBEq, List.length_map, rn_len, nts_len, prs_len, prs_cnt, nts_cnt, rn_cnt10, cnt_two, List.length_set, Int.add_sub_cancel]; (try simp (disch := omega) only [wrap_in, Int.toNat_natCast, tv_rn, tv_nts, tv_prs0, tv_prs1]); subst hk))
              | with_reducible first | refine Kt_p ?_ | refine Kt_i (by kernel_rfl) ?_ | refine Kr_f (by kernel_rfl) ?_
              | (with_reducible refine Kr_t ?_; simp only [List.length_append, List.length_cons, List.length_nil, Nat.reduceAdd, Nat.reduceSub, List.drop_succ_cons, List.drop_zero])
              | with_reducible first | refine vR_nil ?_ | refine KtR_i (by kernel_rfl) ?_ | refine KrR_i (by kernel_rfl) ?_ | refine vR_skip (by decide) ?_
              | ((with_reducible refine vB_i ?_ ?_) <;> intro _ <;> (first | (exfalso; omega) | (exact absurd trivial ‹¬True›) | (try dsimp only [])))
              | ((with_reducible refine vOps_nil' ?_); refine Kr_i (by kernel_rfl) ?_; generalize hk : plain _ _ = G; simp only [lv, E3, E2, E5, rawX, deadX, SB, List.not_mem_nil, ↓reduceIte, ne_eq, reduceCtorEq, Nat.reduceLT, Nat.reduceEqDiff, Nat.reduceAdd, Nat.reduceMul, Nat.reduceLeDiff, Nat.reduceDiv, Nat.reduceMod, Nat.reduceSub, Nat.reduceBEq, List.length_map, rn_len, nts_len, prs_len, prs_cnt, nts_cnt, rn_cnt10, cnt_two, List.length_set, Int.add_sub_cancel] at hk; subst hk)
              | with_reducible refine vSeq_i ?_
              | with_reducible first | refine vRegion_i (by kernel_rfl) ?_ | refine Kv_i ?_
              | ((with_reducible apply vStrK_i); (focus (rfl; done)))
              | ((with_reducible refine imp_i ?_); intro _)
              | with_reducible first | refine Ks_n ?_ | refine Ks_r ?_ | refine Ks_e ?_ | refine Kl_e ?_ | refine Kx_n ?_ | refine Kl_r ?_ | refine vRet_i ?_ | refine vSkip_i ?_ | refine vExit_i ?_ | refine vBlock_i ?_ | refine Ks_p ?_ | refine Kl_p ?_ | refine blk_p ?_ | exact Kb_p | refine vGoto_i ?_ | refine vLabel_i ?_ | refine Ks_g ?_ | refine Kl_g ?_ | refine blk_g ?_ | refine jmp_g ?_ | refine jmp_n ?_ | refine jmp_r ?_ | refine nog_n ?_ | refine nog_r ?_ | refine blk_n ?_ | refine blk_r ?_ | refine blk_e ?_ | refine blk_o (by decide) ?_ | refine cp_t ?_ | refine cp_f ?_
              | ((with_reducible apply vCond_x); (focus (simp only [lv, E1, E2, E5, ET, T, orc_mv, noO_mv, mvB, orc_bx, noO_bx, bxB, orc_sx, noO_sx, sxB, fwd, fwds, inv, mOk, Int.toNat_natCast, Nat.div_one, Nat.mul_one, Int.reduceToNat, SB, List.not_mem_nil, ↓reduceIte, ne_eq, reduceCtorEq, Nat.reduceLT, Nat.reduceEqDiff, Nat.reduceAdd, Nat.reduceMul, Nat.reduceLeDiff, Nat.reduceDiv, Nat.reduceMod, Nat.reduceSub, Nat.reduceBEq, List.length_map, rn_len, nts_len, prs_len, prs_cnt, nts_cnt, rn_cnt10, cnt_two, List.length_set, Int.add_sub_cancel]; with_reducible first | exact Eq.refl (bo true) | exact Eq.refl (bo false))))
              | ((with_reducible refine And.intro ?_ ?_); (focus (try omega)))
            all_goals try (exfalso; omega)
            all_goals try (exfalso; rename_i q; simp only [ha, hb, Int.toNat_natCast] at q; omega)
            all_goals exact Kl_n ⟨k + 1, by omega, by omega, by simp only [Int.natCast_add, Int.natCast_one]⟩
        · skip
          repeat' first
            | ((first
                | ((with_reducible refine vR_cons (by decide) ?_); generalize hk : KtR _ _ _ _ _ _ _ _ _ _ = k)
                | ((first
                | with_reducible refine vOps_cons' ?_) <;> generalize hk : Kt _ _ _ _ _ _ _ _ _ = k)) <;> (simp only [Try.f6, lv, E1, E2, E5, ET, T, orc_mv, noO_mv, mvB, orc_bx, noO_bx, bxB, orc_sx, noO_sx, sxB, fwd, fwds, inv, mOk, Int.toNat_natCast, Nat.div_one, Nat.mul_one, Int.reduceToNat, SB, List.not_mem_nil, ↓reduceIte, ne_eq, reduceCtorEq, Nat.reduceLT, Nat.reduceEqDiff, Nat.reduceAdd, Nat.reduceMul, Nat.reduceLeDiff, Nat.reduceDiv, Nat.reduceMod, Nat.reduceSub, Nat.reduceBEq, List.length_map, rn_len, nts_len, prs_len, prs_cnt, nts_cnt, rn_cnt10, cnt_two, List.length_set, Int.add_sub_cancel]; (try simp (disch := omega) only [wrap_in, Int.toNat_natCast, tv_rn, tv_nts, tv_prs0, tv_prs1]); subst hk))
            | with_reducible first | refine Kt_p ?_ | refine Kt_i (by kernel_rfl) ?_ | refine Kr_f (by kernel_rfl) ?_
            | (with_reducible refine Kr_t ?_; simp only [List.length_append, List.length_cons, List.length_nil, Nat.reduceAdd, Nat.reduceSub, List.drop_succ_cons, List.drop_zero])
            | with_reducible first | refine vR_nil ?_ | refine KtR_i (by kernel_rfl) ?_ | refine KrR_i (by kernel_rfl) ?_ | refine vR_skip (by decide) ?_
            | ((with_reducible refine vB_i ?_ ?_) <;> intro _ <;> (first | (exfalso; omega) | (exact absurd trivial ‹¬True›) | (try dsimp only [])))
            | ((with_reducible refine vOps_nil' ?_); refine Kr_i (by kernel_rfl) ?_; generalize hk : plain _ _ = G; simp only [lv, E3, E2, E5, rawX, deadX, SB, List.not_mem_nil, ↓reduceIte, ne_eq, reduceCtorEq, Nat.reduceLT, Nat.reduceEqDiff, Nat.reduceAdd, Nat.reduceMul, Nat.reduceLeDiff, Nat.reduceDiv, Nat.reduceMod, Nat.reduceSub, Nat.reduceBEq, List.length_map, rn_len, nts_len, prs_len, prs_cnt, nts_cnt, rn_cnt10, cnt_two, List.length_set, Int.add_sub_cancel] at hk; subst hk)
            | with_reducible refine vSeq_i ?_
            | with_reducible first | refine vRegion_i (by kernel_rfl) ?_ | refine Kv_i ?_
            | ((with_reducible apply vStrK_i); (focus (rfl; done)))
            | ((with_reducible refine imp_i ?_); intro _)
            | with_reducible first | refine Ks_n ?_ | refine Ks_r ?_ | refine Ks_e ?_ | refine Kl_e ?_ | refine Kx_n ?_ | refine Kl_r ?_ | refine vRet_i ?_ | refine vSkip_i ?_ | refine vExit_i ?_ | refine vBlock_i ?_ | refine Ks_p ?_ | refine Kl_p ?_ | refine blk_p ?_ | exact Kb_p | refine vGoto_i ?_ | refine vLabel_i ?_ | refine Ks_g ?_ | refine Kl_g ?_ | refine blk_g ?_ | refine jmp_g ?_ | refine jmp_n ?_ | refine jmp_r ?_ | refine nog_n ?_ | refine nog_r ?_ | refine blk_n ?_ | refine blk_r ?_ | refine blk_e ?_ | refine blk_o (by decide) ?_ | refine cp_t ?_ | refine cp_f ?_
            | ((with_reducible apply vCond_x); (focus (simp only [lv, E1, E2, E5, ET, T, orc_mv, noO_mv, mvB, orc_bx, noO_bx, bxB, orc_sx, noO_sx, sxB, fwd, fwds, inv, mOk, Int.toNat_natCast, Nat.div_one, Nat.mul_one, Int.reduceToNat, SB, List.not_mem_nil, ↓reduceIte, ne_eq, reduceCtorEq, Nat.reduceLT, Nat.reduceEqDiff, Nat.reduceAdd, Nat.reduceMul, Nat.reduceLeDiff, Nat.reduceDiv, Nat.reduceMod, Nat.reduceSub, Nat.reduceBEq, List.length_map, rn_len, nts_len, prs_len, prs_cnt, nts_cnt, rn_cnt10, cnt_two, List.length_set, Int.add_sub_cancel]; with_reducible first | exact Eq.refl (bo true) | exact Eq.refl (bo false))))
            | ((with_reducible refine And.intro ?_ ?_); (focus (try omega)))
          all_goals try (exfalso; omega)
          refine Kf_r ?_
          simp only [Try.f6, E4, E3, E2, E5, rawX, deadX, ET, T, SB, List.not_mem_nil, ↓reduceIte, ne_eq, reduceCtorEq, Nat.reduceLT, Nat.reduceEqDiff, Nat.reduceAdd, Nat.reduceMul, Nat.reduceLeDiff, Nat.reduceDiv, Nat.reduceMod, Nat.reduceSub, Nat.reduceBEq, List.length_map, rn_len, nts_len, prs_len, prs_cnt, nts_cnt, rn_cnt10, cnt_two, List.length_set, Int.add_sub_cancel]
end Go.Proofs.YtncabdcaamkhiaaG
/- L10d: BracketKeeps at what came in. -/
namespace Go.Proofs.YtncabdcaamkhiaaG
open Go Go.RowKit Go.Proofs Go.Proofs.Ytncabdcaamkhiaa
theorem bracketKeeps_in {W : World} {v0 v1 v2 : Value} {xs0 : List SV} {x1 x2 : SV} (t0 : Typ T 1048576 36 xs0) (a0 : XR W (gI W) v0 (.p (.agg (xs0.map .v)))) (t1 : Typ T 1048576 3 [x1]) (a1 : XR W (gI W) v1 (.p (.one (.v x1)))) (t2 : Typ T 1048576 3 [x2]) (a2 : XR W (gI W) v2 (.p (.one (.v x2)))) :
    Calls Try.prog 6 #[v0, v1, v2] W fun e W' => e = .returned (.bool true) ∧ Below W.heap.size W W' := by
  obtain ⟨l, u, t, rfl, hl, hu, ht⟩ := typ_tx t0
  obtain ⟨lev, rfl⟩ := typ_i64 t1
  obtain ⟨sos, rfl⟩ := typ_i64 t2
  exact law_calls (bracketKeeps_law l u t lev sos (by omega) (by omega) (by omega)) (.cons a0 (.cons a1 (.cons a2 .nil)))
end Go.Proofs.YtncabdcaamkhiaaG
/- N18: so many openings and as many closings (pure). -/
namespace Go.Proofs.YtncabdcaamkhiaaG
open Go Go.RowKit Go.Proofs
set_option linter.unusedSimpArgs false
set_option linter.unusedVariables false
structure Deep (o c : Int) : Prop where
  ko : (brF o).1 = 1
  kc : (brF c).1 = 2
  en : canF (brF o).2 = canF c
end Go.Proofs.YtncabdcaamkhiaaG
