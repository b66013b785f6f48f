/- YtncabdcaamkhiaaZTLawGBracketDeep: a part of the proof, joined of its texts. -/
import Derived.Test.YtncabdcaamkhiaaZ17
/- L10c: layer 10's laws of whole sequences at what came in. -/
namespace Go.Proofs.YtncabdcaamkhiaaG
open Go Go.RowKit Go.Proofs Go.Proofs.Ytncabdcaamkhiaa
theorem typ_i64 {n : Nat} {x : SV} (h : Typ T n 3 [x]) : ∃ m : Int, x = .raw (.int .i64 m) := by
  obtain ⟨m, e, _⟩ := h.int' (by rfl)
  simp only [List.cons.injEq, and_true] at e
  exact ⟨m, e⟩
end Go.Proofs.YtncabdcaamkhiaaG
/- N18: so many openings and as many closings (pure). -/
namespace Go.Proofs.YtncabdcaamkhiaaG
open Go Go.RowKit Go.Proofs
set_option linter.unusedSimpArgs false
set_option linter.unusedVariables false
theorem getD_app1 {l m : List Int} {i : Nat} (h : i < l.length) : (l ++ m).getD i 0 = l.getD i 0 := by
  rw [List.getD_eq_getElem?_getD, List.getD_eq_getElem?_getD, List.getElem?_append_left h]
theorem getD_app2 {l m : List Int} {i : Nat} (h : l.length ≤ i) : (l ++ m).getD i 0 = m.getD (i - l.length) 0 := by
  rw [List.getD_eq_getElem?_getD, List.getD_eq_getElem?_getD, List.getElem?_append_right h]
theorem getD_repl {n i : Nat} {x : Int} (h : i < n) : (List.replicate n x).getD i 0 = x := by
  rw [List.getD_eq_getElem?_getD, List.getElem?_replicate, if_pos h]; rfl
def deepL (n : Nat) (o c : Int) : List Int := List.replicate n o ++ List.replicate n c
def deepT (n : Nat) : List Int := List.replicate n 14 ++ List.replicate n 14
structure Deep (o c : Int) : Prop where
  ko : (brF o).1 = 1
  kc : (brF c).1 = 2
  en : canF (brF o).2 = canF c
theorem deep_len (n : Nat) (o c : Int) : (deepL n o c).length = n + n := by simp [deepL]
theorem deepT_len (n : Nat) : (deepT n).length = n + n := by simp [deepT]
theorem deep_o {n : Nat} {o c : Int} {i : Nat} (h : i < n) : (deepL n o c).getD i 0 = o := by
  unfold deepL; rw [getD_app1 (by simpa using h), getD_repl h]
theorem deep_c {n : Nat} {o c : Int} {i : Nat} (h : n ≤ i) (h' : i < n + n) : (deepL n o c).getD i 0 = c := by
  unfold deepL; rw [getD_app2 (by simpa using h), getD_repl (by rw [List.length_replicate]; omega)]
theorem deep_t {n : Nat} {i : Nat} (h : i < n + n) : (deepT n).getD i 0 = 14 := by
  unfold deepT
  by_cases q : i < n
  · rw [getD_app1 (by simpa using q), getD_repl q]
  · rw [getD_app2 (by simp; omega), getD_repl (by rw [List.length_replicate]; omega)]
theorem deep_k1 {n : Nat} {o c : Int} (D : Deep o c) {i : Nat} (h : i < n) : kindF (deepL n o c) (deepT n) i = 1 := by
  unfold kindF; rw [deep_t (by omega), if_neg (by omega), deep_o h, D.ko]
theorem deep_k2 {n : Nat} {o c : Int} (D : Deep o c) {i : Nat} (h : n ≤ i) (h' : i < n + n) : kindF (deepL n o c) (deepT n) i = 2 := by
  unfold kindF; rw [deep_t h', if_neg (by omega), deep_c h h', D.kc]
theorem deep_up {n : Nat} {o c : Int} (D : Deep o c) : ∀ i, i ≤ n → i ≤ 63 → stW (deepL n o c) (deepT n) i = ((List.range i, []), false)
  | 0, _, _ => rfl
  | i + 1, h, h' => by
    rw [stW, deep_up D i (by omega) (by omega), if_neg (by simp), deep_k1 D (by omega), if_pos rfl, if_neg (by simp; omega), List.range_succ]
theorem deep_stop {n : Nat} {o c : Int} (D : Deep o c) (h : 63 < n) : prsF (deepL n o c) (deepT n) = [] := by
  have h1 : stW (deepL n o c) (deepT n) 64 = ((List.range 63, []), true) := by
    rw [show (64 : Nat) = 63 + 1 from rfl, stW, deep_up D 63 (by omega) (by omega), if_neg (by simp), deep_k1 D (by omega), if_pos rfl, if_pos (by simp)]
  have h2 := stW_stop (deepL n o c) (deepT n) (i := 64) (by rw [h1]) (n + n) (by omega)
  unfold prsF
  rw [deep_len, h2, h1]
  unfold rising
  simp
theorem deep_fnd {n : Nat} {o c : Int} (D : Deep o c) {j : Nat} (h : j < n) : fnd (deepL n o c) (List.range (n - j)) (n + j) (n - j) = some (n - j - 1) := by
  rw [show n - j = (n - j - 1) + 1 by omega, fnd, if_pos]
  · rfl
  · unfold endsF
    have : (List.range (n - j - 1 + 1)).getD (n - j - 1) 0 = n - j - 1 := by
      rw [List.getD_eq_getElem?_getD, List.getElem?_range (by omega)]; rfl
    rw [this, deep_o (by omega), deep_c (by omega) (by omega), D.en]; exact decide_eq_true rfl
def deepO (n j : Nat) : List (Int × Int) := (List.range j).map fun i => (((n - i - 1 : Nat) : Int), ((n + i : Nat) : Int))
theorem deep_down {n : Nat} {o c : Int} (D : Deep o c) (h63 : n ≤ 63) : ∀ j, j ≤ n → stW (deepL n o c) (deepT n) (n + j) = ((List.range (n - j), deepO n j), false)
  | 0, _ => by rw [Nat.add_zero, deep_up D n (Nat.le_refl _) h63]; rfl
  | j + 1, h => by
    rw [← Nat.add_assoc, stW, deep_down D h63 j (by omega), if_neg (by simp), deep_k2 D (by omega) (by omega), if_neg (by decide), if_pos rfl]
    simp only [List.length_range]
    rw [deep_fnd D (by omega)]
    simp only [Prod.mk.injEq, and_true]
    refine ⟨?_, ?_⟩
    · rw [List.take_range]; congr 1; omega
    · unfold deepO
      rw [List.range_succ, List.map_append, List.map_cons, List.map_nil]
      congr 3
      rw [List.getD_eq_getElem?_getD, List.getElem?_range (by omega)]; rfl
theorem up_le {P : List (Int × Int)} (h : P.Pairwise fun x y => x.1 < y.1) (h0 : ∀ p ∈ P, 0 ≤ p.1) : ∀ k (hk : k < P.length), (k : Int) ≤ P[k].1
  | 0, hk => h0 _ (List.getElem_mem _)
  | k + 1, hk => by
    have h1 := up_le h h0 k (by omega)
    have h2 := List.pairwise_iff_getElem.1 h k (k + 1) (by omega) hk (by omega)
    omega
theorem dn_le {P : List (Int × Int)} {n : Int} (h : P.Pairwise fun x y => x.1 < y.1) (h0 : ∀ p ∈ P, p.1 < n) : ∀ m k (hk : k < P.length), k + m + 1 = P.length → P[k].1 + m < n
  | 0, k, hk, _ => by have := h0 _ (List.getElem_mem hk); omega
  | m + 1, k, hk, e => by
    have h1 := dn_le h h0 m (k + 1) (by omega) (by omega)
    have h2 := List.pairwise_iff_getElem.1 h k (k + 1) hk (by omega) (by omega)
    omega
theorem deep_pairs {n : Nat} {o c : Int} (D : Deep o c) (h63 : n ≤ 63) : (prsF (deepL n o c) (deepT n)).length = n ∧ ∀ k, k < n → (prsF (deepL n o c) (deepT n)).getD k (0, 0) = ((k : Int), ((2 * n - 1 - k : Nat) : Int)) := by
  have hO : (stW (deepL n o c) (deepT n) (n + n)).1.2 = deepO n n := by rw [deep_down D h63 n (Nat.le_refl _)]
  have hok := stW_ok (deepL n o c) (deepT n) (n + n)
  have hnd : ((deepO n n).map (·.1)).Nodup := by
    have := (List.nodup_append.1 hok.nd).2.1; rw [hO] at this; exact this
  have hb : ∀ p ∈ deepO n n, 0 ≤ p.1 ∧ p.1 < ((n + n : Nat) : Int) := fun p hp => by
    unfold deepO at hp; obtain ⟨i, hi, rfl⟩ := List.mem_map.1 hp
    simp only [List.mem_range] at hi; simp only []; omega
  have hperm := rising_perm hnd hb
  have hlen : (prsF (deepL n o c) (deepT n)).length = n := by
    unfold prsF; rw [deep_len, hO, hperm.length_eq]; simp [deepO]
  have hmem : ∀ p ∈ prsF (deepL n o c) (deepT n), 0 ≤ p.1 ∧ p.1 < (n : Int) ∧ p.2 = 2 * (n : Int) - 1 - p.1 := fun p hp => by
    unfold prsF at hp; rw [deep_len, hO, hperm.mem_iff] at hp
    unfold deepO at hp; obtain ⟨i, hi, rfl⟩ := List.mem_map.1 hp
    simp only [List.mem_range] at hi; simp only []; omega
  have hs : (prsF (deepL n o c) (deepT n)).Pairwise fun x y => x.1 < y.1 := rising_sorted _ _
  refine ⟨hlen, fun k hk => ?_⟩
  have hk' : k < (prsF (deepL n o c) (deepT n)).length := by omega
  have h1 := up_le hs (fun p hp => (hmem p hp).1) k hk'
  have h2 := dn_le hs (fun p hp => (hmem p hp).2.1) (n - k - 1) k hk' (by omega)
  have h3 := (hmem _ (List.getElem_mem hk')).2.2
  rw [List.getD_eq_getElem?_getD, List.getElem?_eq_getElem hk']
  refine Prod.ext ?_ ?_ <;> simp only [Option.getD_some] <;> omega
def opnF (k : Nat) : Int := ([40, 91, 9001, 12296] : List Int).getD k 0
def clsF (k : Nat) : Int := ([41, 93, 12297, 9002] : List Int).getD k 0
theorem deep_all : ∀ k, k < 4 → (brF (opnF k)).1 = 1 ∧ (brF (clsF k)).1 = 2 ∧ canF (brF (opnF k)).2 = canF (clsF k) := by decide +kernel
theorem deep_is {k : Nat} (h : k < 4) : Deep (opnF k) (clsF k) := ⟨(deep_all k h).1, (deep_all k h).2.1, (deep_all k h).2.2⟩
end Go.Proofs.YtncabdcaamkhiaaG
namespace Go.Proofs.YtncabdcaamkhiaaG
open Go Go.RowKit Go.Proofs
set_option linter.unusedSimpArgs false
set_option linter.unusedVariables false
theorem wrap_mod (x m : Int) (h : 0 < m ∧ m < 1000) : ∃ n : Nat, IntKind.i64.wrap ((IntKind.u64.wrap x).tmod m) = (n : Int) ∧ n ≤ (m - 1).toNat := by
  have h0 : 0 ≤ IntKind.u64.wrap x := by rw [IntKind.wrap_u64]; omega
  have h1 : (IntKind.u64.wrap x).tmod m = (IntKind.u64.wrap x) % m := Int.tmod_eq_emod_of_nonneg h0
  have h2 := Int.emod_nonneg (IntKind.u64.wrap x) (show m ≠ 0 by omega)
  have h3 := Int.emod_lt_of_pos (IntKind.u64.wrap x) h.1
  refine ⟨((IntKind.u64.wrap x) % m).toNat, ?_, by omega⟩
  rw [h1, wrap_in (by omega) (by omega)]
  omega
theorem tv_opn {w : Nat} (h : w < 4) : (List.map TV.v (rn [40, 91, 9001, 12296])).getD w .dead = .v (.raw (.int .i32 (opnF w))) := tv_rn (by exact h)
theorem tv_cls {w : Nat} (h : w < 4) : (List.map TV.v (rn [41, 93, 12297, 9002])).getD w .dead = .v (.raw (.int .i32 (clsF w))) := tv_rn (by exact h)
theorem rep_rn (i : Nat) (o : Int) : rn (List.replicate (i + 1) o) = rn (List.replicate i o) ++ [.raw (.int .i32 o)] := by rw [List.replicate_succ']; simp [rn]
theorem rep_nts (i : Nat) (o : Int) : nts (List.replicate (i + 1) o) = nts (List.replicate i o) ++ [.raw (.int .i64 o)] := by rw [List.replicate_succ']; simp [nts]
theorem rep_rn2 (x : List Int) (i : Nat) (o : Int) : rn (x ++ List.replicate (i + 1) o) = rn (x ++ List.replicate i o) ++ [.raw (.int .i32 o)] := by rw [List.replicate_succ']; simp [rn]
theorem rep_nts2 (x : List Int) (i : Nat) (o : Int) : nts (x ++ List.replicate (i + 1) o) = nts (x ++ List.replicate i o) ++ [.raw (.int .i64 o)] := by rw [List.replicate_succ']; simp [nts]
set_option maxRecDepth 10000 in
set_option maxHeartbeats 4000000 in
theorem bracketDeep_law (n0 w0 : Int) : CallOk Try.prog 7 [i64 n0, i64 w0] (bo true) [] true := by
  have q6 := works_ok
  refine fn_ok' T_ok (orc_ok _) mixed Try.func7 rfl (by kernel_rfl) (lv [[0, 1], [0, 1, 17], [4], [0, 1], [0, 1, 5], [0, 1, 5, 6], [0, 5, 6, 7], [0, 5, 6, 7, 8], [0, 5, 6, 7, 8, 9], [0, 5, 6, 7, 8, 9, 10], [0, 5, 6, 7, 8, 9, 10, 30], [0, 5, 6, 7, 8, 9, 10], [0, 5, 6, 7, 8, 9, 10], [0, 6, 7, 8, 9, 11], [0, 6, 7, 8, 9, 11, 45], [0, 6, 7, 8, 9, 11], [0, 6, 7, 8, 9, 11], [0, 12, 13], [0, 12, 65], [4], [0, 12, 67], [4], [0, 12, 71, 72, 73], [0, 12, 71, 72, 73, 74], [0, 12, 14, 15, 71, 72, 73], [0, 12, 71, 72, 73, 86], [4], [0, 12, 71, 72, 73], [4]]) 92 rfl (by simp) rfl (by simp [X.all, PX.all, TV.rawR, SV.isRaw]) ?_
  simp only [argsG, Nat.zero_add, Nat.reduceAdd]
  repeat' first
    | ((first
        | ((with_reducible refine vR_cons (by decide) ?_); generalize hk : KtR _ _ _ _ _ _ _ _ _ _ = k)
        | ((first
        | with_reducible refine vOps_cons' ?_
        | ((with_reducible apply orc_i); (focus (exact q6; done)))) <;> generalize hk : Kt _ _ _ _ _ _ _ _ _ = k)) <;> (simp only [Try.f7, lv, E1, E2, E5, ET, T, orc_mv, noO_mv, mvB, orc_bx, noO_bx, bxB, orc_sx, noO_sx, sxB, fwd, fwds, inv, mOk, Int.toNat_natCast, Nat.div_one, Nat.mul_one, Int.reduceToNat, SB, List.not_mem_nil, ↓reduceIte, ne_eq, reduceCtorEq, Nat.reduceLT, Nat.reduceEqDiff, Nat.reduceAdd, Nat.reduceMul, Nat.reduceLeDiff, Nat.reduceDiv, Nat.reduceMod, Nat.reduceSub, Nat.reduceBEq, List.length_map, rn_len, nts_len, prs_len, prs_cnt, nts_cnt, rn_cnt10, cnt_two, List.length_set, Int.add_sub_cancel, List.length_append, List.length_replicate]; (try simp (disch := omega) only [wrap_in, Int.toNat_natCast, tv_rn, tv_nts, tv_prs0, tv_prs1, tv_opn, tv_cls]); subst hk))
    | with_reducible first | refine Kt_p ?_ | refine Kt_i (by kernel_rfl) ?_ | refine Kr_f (by kernel_rfl) ?_
    | (with_reducible refine Kr_t ?_; simp only [List.length_append, List.length_cons, List.length_nil, Nat.reduceAdd, Nat.reduceSub, List.drop_succ_cons, List.drop_zero])
    | with_reducible first | refine vR_nil ?_ | refine KtR_i (by kernel_rfl) ?_ | refine KrR_i (by kernel_rfl) ?_ | refine vR_skip (by decide) ?_
    | ((with_reducible refine vB_i ?_ ?_) <;> intro _ <;> (first | (exfalso; omega) | (exact absurd trivial ‹¬True›) | (try dsimp only [])))
    | ((with_reducible refine vOps_nil' ?_); refine Kr_i (by kernel_rfl) ?_; generalize hk : plain _ _ = G; simp only [lv, E3, E2, E5, rawX, deadX, SB, List.not_mem_nil, ↓reduceIte, ne_eq, reduceCtorEq, Nat.reduceLT, Nat.reduceEqDiff, Nat.reduceAdd, Nat.reduceMul, Nat.reduceLeDiff, Nat.reduceDiv, Nat.reduceMod, Nat.reduceSub, Nat.reduceBEq, List.length_map, rn_len, nts_len, prs_len, prs_cnt, nts_cnt, rn_cnt10, cnt_two, List.length_set, Int.add_sub_cancel, List.length_append, List.length_replicate] at hk; subst hk)
    | with_reducible refine vSeq_i ?_
    | with_reducible first | refine vRegion_i (by kernel_rfl) ?_ | refine Kv_i ?_
    | ((with_reducible apply vStrK_i); (focus (rfl; done)))
    | ((with_reducible refine imp_i ?_); intro _)
    | with_reducible first | refine Ks_n ?_ | refine Ks_r ?_ | refine Ks_e ?_ | refine Kl_e ?_ | refine Kx_n ?_ | refine Kl_r ?_ | refine vRet_i ?_ | refine vSkip_i ?_ | refine vExit_i ?_ | refine vBlock_i ?_ | refine Ks_p ?_ | refine Kl_p ?_ | refine blk_p ?_ | exact Kb_p | refine vGoto_i ?_ | refine vLabel_i ?_ | refine Ks_g ?_ | refine Kl_g ?_ | refine blk_g ?_ | refine jmp_g ?_ | refine jmp_n ?_ | refine jmp_r ?_ | refine nog_n ?_ | refine nog_r ?_ | refine blk_n ?_ | refine blk_r ?_ | refine blk_e ?_ | refine blk_o (by decide) ?_ | refine cp_t ?_ | refine cp_f ?_
    | ((with_reducible apply vCond_x); (focus (simp only [lv, E1, E2, E5, ET, T, orc_mv, noO_mv, mvB, orc_bx, noO_bx, bxB, orc_sx, noO_sx, sxB, fwd, fwds, inv, mOk, Int.toNat_natCast, Nat.div_one, Nat.mul_one, Int.reduceToNat, SB, List.not_mem_nil, ↓reduceIte, ne_eq, reduceCtorEq, Nat.reduceLT, Nat.reduceEqDiff, Nat.reduceAdd, Nat.reduceMul, Nat.reduceLeDiff, Nat.reduceDiv, Nat.reduceMod, Nat.reduceSub, Nat.reduceBEq, List.length_map, rn_len, nts_len, prs_len, prs_cnt, nts_cnt, rn_cnt10, cnt_two, List.length_set, Int.add_sub_cancel, List.length_append, List.length_replicate]; with_reducible first | exact Eq.refl (bo true) | exact Eq.refl (bo false))))
    | ((with_reducible refine And.intro ?_ ?_); (focus (try omega)))
  all_goals try (exfalso; omega)
  obtain ⟨n, hn, hn2⟩ : ∃ n : Nat, IntKind.i64.wrap ((IntKind.u64.wrap n0).tmod 201) = (n : Int) ∧ n ≤ 200 := wrap_mod n0 201 (by decide)
  obtain ⟨w, hw, hw2⟩ : ∃ w : Nat, IntKind.i64.wrap ((IntKind.u64.wrap w0).tmod 4) = (w : Int) ∧ w ≤ 3 := wrap_mod w0 4 (by decide)
  rw [hn, hw]
  have hD := deep_is (k := w) (by omega)
  refine vLoop_s (fun i : Nat => [(.t 0, .t (i64 n)), (.t 5, .t (.p (.one (.sr 0)))), (.t 6, .t (.p (.one (.sr 1)))), (.t 7, .t (i64 w)), (.t 8, .t (.p (.one (.sr 2)))), (.t 9, .t (.p (.one (.sr 3)))), (.t 10, .t (i64 i)), (.row 0, .row 21 1 (rn [40, 91, 9001, 12296])), (.row 1, .row 21 1 (rn [41, 93, 12297, 9002])), (.row 2, .row 21 1 (rn (List.replicate i (opnF w)))), (.row 3, .row 3 1 (nts (List.replicate i 14)))]) (fun i => i ≤ n) (fun i => n - i) 0 (by omega) rfl ?_
  rintro i hi
  by_cases hin : i < n
  · skip
    repeat' first
      | ((first
          | ((with_reducible refine vR_cons (by decide) ?_); generalize hk : KtR _ _ _ _ _ _ _ _ _ _ = k)
          | ((first
          | with_reducible refine vOps_cons' ?_) <;> generalize hk : Kt _ _ _ _ _ _ _ _ _ = k)) <;> (simp only [Try.f7, lv, E1, E2, E5, ET, T, orc_mv, noO_mv, mvB, orc_bx, noO_bx, bxB, orc_sx, noO_sx, sxB, fwd, fwds, inv, mOk, Int.toNat_natCast, Nat.div_one, Nat.mul_one, Int.reduceToNat, SB, List.not_mem_nil, ↓reduceIte, ne_eq, reduceCtorEq, Nat.reduceLT, Nat.reduceEqDiff, Nat.reduceAdd, Nat.reduceMul, Nat.reduceLeDiff, Nat.reduceDiv, Nat.reduceMod, Nat.reduceSub, Nat.reduceBEq, List.length_map, rn_len, nts_len, prs_len, prs_cnt, nts_cnt, rn_cnt10, cnt_two, List.length_set, Int.add_sub_cancel, List.length_append, List.length_replicate]; (try simp (disch := omega) only [wrap_in, Int.toNat_natCast, tv_rn, tv_nts, tv_prs0, tv_prs1, tv_opn, tv_cls]); subst hk))
      | with_reducible first | refine Kt_p ?_ | refine Kt_i (by kernel_rfl) ?_ | refine Kr_f (by kernel_rfl) ?_
      | (with_reducible refine Kr_t ?_; simp only [List.length_append, List.length_cons, List.length_nil, Nat.reduceAdd, Nat.reduceSub, List.drop_succ_cons, List.drop_zero])
      | with_reducible first | refine vR_nil ?_ | refine KtR_i (by kernel_rfl) ?_ | refine KrR_i (by kernel_rfl) ?_ | refine vR_skip (by decide) ?_
      | ((with_reducible refine vB_i ?_ ?_) <;> intro _ <;> (first | (exfalso; omega) | (exact absurd trivial ‹¬True›) | (try dsimp only [])))
      | ((with_reducible refine vOps_nil' ?_); refine Kr_i (by kernel_rfl) ?_; generalize hk : plain _ _ = G; simp only [lv, E3, E2, E5, rawX, deadX, SB, List.not_mem_nil, ↓reduceIte, ne_eq, reduceCtorEq, Nat.reduceLT, Nat.reduceEqDiff, Nat.reduceAdd, Nat.reduceMul, Nat.reduceLeDiff, Nat.reduceDiv, Nat.reduceMod, Nat.reduceSub, Nat.reduceBEq, List.length_map, rn_len, nts_len, prs_len, prs_cnt, nts_cnt, rn_cnt10, cnt_two, List.length_set, Int.add_sub_cancel, List.length_append, List.length_replicate] at hk; subst hk)
      | with_reducible refine vSeq_i ?_
      | with_reducible first | refine vRegion_i (by kernel_rfl) ?_ | refine Kv_i ?_
      | ((with_reducible apply vStrK_i); (focus (rfl; done)))
      | ((with_reducible refine imp_i ?_); intro _)
      | with_reducible first | refine Ks_n ?_ | refine Ks_r ?_ | refine Ks_e ?_ | refine Kl_e ?_ | refine Kx_n ?_ | refine Kl_r ?_ | refine vRet_i ?_ | refine vSkip_i ?_ | refine vExit_i ?_ | refine vBlock_i ?_ | refine Ks_p ?_ | refine Kl_p ?_ | refine blk_p ?_ | exact Kb_p | refine vGoto_i ?_ | refine vLabel_i ?_ | refine Ks_g ?_ | refine Kl_g ?_ | refine blk_g ?_ | refine jmp_g ?_ | refine jmp_n ?_ | refine jmp_r ?_ | refine nog_n ?_ | refine nog_r ?_ | refine blk_n ?_ | refine blk_r ?_ | refine blk_e ?_ | refine blk_o (by decide) ?_ | refine cp_t ?_ | refine cp_f ?_
      | ((with_reducible apply vCond_x); (focus (simp only [lv, E1, E2, E5, ET, T, orc_mv, noO_mv, mvB, orc_bx, noO_bx, bxB, orc_sx, noO_sx, sxB, fwd, fwds, inv, mOk, Int.toNat_natCast, Nat.div_one, Nat.mul_one, Int.reduceToNat, SB, List.not_mem_nil, ↓reduceIte, ne_eq, reduceCtorEq, Nat.reduceLT, Nat.reduceEqDiff, Nat.reduceAdd, Nat.reduceMul, Nat.reduceLeDiff, Nat.reduceDiv, Nat.reduceMod, Nat.reduceSub, Nat.reduceBEq, List.length_map, rn_len, nts_len, prs_len, prs_cnt, nts_cnt, rn_cnt10, cnt_two, List.length_set, Int.add_sub_cancel, List.length_append, List.length_replicate]; with_reducible first | exact Eq.refl (bo true) | exact Eq.refl (bo false))))
      | ((with_reducible refine And.intro ?_ ?_); (focus (try omega)))
    all_goals try (exfalso; omega)
    exact Kl_n ⟨i + 1, by omega, by omega, by rw [rep_rn, rep_nts]; simp only [Int.natCast_add, Int.natCast_one]⟩
  · obtain rfl : i = n := by omega
    repeat' first
      | ((first
          | ((with_reducible refine vR_cons (by decide) ?_); generalize hk : KtR _ _ _ _ _ _ _ _ _ _ = k)
          | ((first
          | with_reducible refine vOps_cons' ?_) <;> generalize hk : Kt _ _ _ _ _ _ _ _ _ = k)) <;> (simp only [Try.f7, lv, E1, E2, E5, ET, T, orc_mv, noO_mv, mvB, orc_bx, noO_bx, bxB, orc_sx, noO_sx, sxB, fwd, fwds, inv, mOk, Int.toNat_natCast, Nat.div_one, Nat.mul_one, Int.reduceToNat, SB, List.not_mem_nil, ↓reduceIte, ne_eq, reduceCtorEq, Nat.reduceLT, Nat.reduceEqDiff, Nat.reduceAdd, Nat.reduceMul, Nat.reduceLeDiff, Nat.reduceDiv, Nat.reduceMod, Nat.reduceSub, Nat.reduceBEq, List.length_map, rn_len, nts_len, prs_len, prs_cnt, nts_cnt, rn_cnt10, cnt_two, List.length_set, Int.add_sub_cancel, List.length_append, List.length_replicate]; (try simp (disch := omega) only [wrap_in, Int.toNat_natCast, tv_rn, tv_nts, tv_prs0, tv_prs1, tv_opn, tv_cls]); subst hk))
      | with_reducible first | refine Kt_p ?_ | refine Kt_i (by kernel_rfl) ?_ | refine Kr_f (by kernel_rfl) ?_
      | (with_reducible refine Kr_t ?_; simp only [List.length_append, List.length_cons, List.length_nil, Nat.reduceAdd, Nat.reduceSub, List.drop_succ_cons, List.drop_zero])
      | with_reducible first | refine vR_nil ?_ | refine KtR_i (by kernel_rfl) ?_ | refine KrR_i (by kernel_rfl) ?_ | refine vR_skip (by decide) ?_
      | ((with_reducible refine vB_i ?_ ?_) <;> intro _ <;> (first | (exfalso; omega) | (exact absurd trivial ‹¬True›) | (try dsimp only [])))
      | ((with_reducible refine vOps_nil' ?_); refine Kr_i (by kernel_rfl) ?_; generalize hk : plain _ _ = G; simp only [lv, E3, E2, E5, rawX, deadX, SB, List.not_mem_nil, ↓reduceIte, ne_eq, reduceCtorEq, Nat.reduceLT, Nat.reduceEqDiff, Nat.reduceAdd, Nat.reduceMul, Nat.reduceLeDiff, Nat.reduceDiv, Nat.reduceMod, Nat.reduceSub, Nat.reduceBEq, List.length_map, rn_len, nts_len, prs_len, prs_cnt, nts_cnt, rn_cnt10, cnt_two, List.length_set, Int.add_sub_cancel, List.length_append, List.length_replicate] at hk; subst hk)
      | with_reducible refine vSeq_i ?_
      | with_reducible first | refine vRegion_i (by kernel_rfl) ?_ | refine Kv_i ?_
      | ((with_reducible apply vStrK_i); (focus (rfl; done)))
      | ((with_reducible refine imp_i ?_); intro _)
      | with_reducible first | refine Ks_n ?_ | refine Ks_r ?_ | refine Ks_e ?_ | refine Kl_e ?_ | refine Kx_n ?_ | refine Kl_r ?_ | refine vRet_i ?_ | refine vSkip_i ?_ | refine vExit_i ?_ | refine vBlock_i ?_ | refine Ks_p ?_ | refine Kl_p ?_ | refine blk_p ?_ | exact Kb_p | refine vGoto_i ?_ | refine vLabel_i ?_ | refine Ks_g ?_ | refine Kl_g ?_ | refine blk_g ?_ | refine jmp_g ?_ | refine jmp_n ?_ | refine jmp_r ?_ | refine nog_n ?_ | refine nog_r ?_ | refine blk_n ?_ | refine blk_r ?_ | refine blk_e ?_ | refine blk_o (by decide) ?_ | refine cp_t ?_ | refine cp_f ?_
      | ((with_reducible apply vCond_x); (focus (simp only [lv, E1, E2, E5, ET, T, orc_mv, noO_mv, mvB, orc_bx, noO_bx, bxB, orc_sx, noO_sx, sxB, fwd, fwds, inv, mOk, Int.toNat_natCast, Nat.div_one, Nat.mul_one, Int.reduceToNat, SB, List.not_mem_nil, ↓reduceIte, ne_eq, reduceCtorEq, Nat.reduceLT, Nat.reduceEqDiff, Nat.reduceAdd, Nat.reduceMul, Nat.reduceLeDiff, Nat.reduceDiv, Nat.reduceMod, Nat.reduceSub, Nat.reduceBEq, List.length_map, rn_len, nts_len, prs_len, prs_cnt, nts_cnt, rn_cnt10, cnt_two, List.length_set, Int.add_sub_cancel, List.length_append, List.length_replicate]; with_reducible first | exact Eq.refl (bo true) | exact Eq.refl (bo false))))
      | ((with_reducible refine And.intro ?_ ?_); (focus (try omega)))
    all_goals try (exfalso; omega)
    refine vLoop_s (fun j : Nat => [(.t 0, .t (i64 i)), (.t 6, .t (.p (.one (.sr 0)))), (.t 7, .t (i64 w)), (.t 8, .t (.p (.one (.sr 1)))), (.t 9, .t (.p (.one (.sr 2)))), (.t 11, .t (i64 j)), (.row 0, .row 21 1 (rn [41, 93, 12297, 9002])), (.row 1, .row 21 1 (rn (List.replicate i (opnF w) ++ List.replicate j (clsF w)))), (.row 2, .row 3 1 (nts (List.replicate i 14 ++ List.replicate j 14)))]) (fun j => j ≤ i) (fun j => i - j) 0 (by omega) (by simp only [List.replicate_zero, List.append_nil]; rfl) ?_
    rintro j hj
    by_cases hjn : j < i
    · skip
      repeat' first
        | ((first
            | ((with_reducible refine vR_cons (by decide) ?_); generalize hk : KtR _ _ _ _ _ _ _ _ _ _ = k)
            | ((first
            | with_reducible refine vOps_cons' ?_) <;> generalize hk : Kt _ _ _ _ _ _ _ _ _ = k)) <;> (simp only [Try.f7, lv, E1, E2, E5, ET, T, orc_mv, noO_mv, mvB, orc_bx, noO_bx, bxB, orc_sx, noO_sx, sxB, fwd, fwds, inv, mOk, Int.toNat_natCast, Nat.div_one, Nat.mul_one, Int.reduceToNat, SB, List.not_mem_nil, ↓reduceIte, ne_eq, reduceCtorEq, Nat.reduceLT, Nat.reduceEqDiff, Nat.reduceAdd, Nat.reduceMul, Nat.reduceLeDiff, Nat.reduceDiv, Nat.reduceMod, Nat.reduceSub, Nat.reduceBEq, List.length_map, rn_len, nts_len, prs_len, prs_cnt, nts_cnt, rn_cnt10, cnt_two, List.length_set, Int.add_sub_cancel, List.length_append, List.length_replicate]; (try simp (disch := omega) only [wrap_in, Int.toNat_natCast, tv_rn, tv_nts, tv_prs0, tv_prs1, tv_opn, tv_cls]); subst hk))
        | with_reducible first | refine Kt_p ?_ | refine Kt_i (by kernel_rfl) ?_ | refine Kr_f (by kernel_rfl) ?_
        | (with_reducible refine Kr_t ?_; simp only [List.length_append, List.length_cons, List.length_nil, Nat.reduceAdd, Nat.reduceSub, List.drop_succ_cons, List.drop_zero])
        | with_reducible first | refine vR_nil ?_ | refine KtR_i (by kernel_rfl) ?_ | refine KrR_i (by kernel_rfl) ?_ | refine vR_skip (by decide) ?_
        | ((with_reducible refine vB_i ?_ ?_) <;> intro _ <;> (first | (exfalso; omega) | (exact absurd trivial ‹¬True›) | (try dsimp only [])))
        | ((with_reducible refine vOps_nil' ?_); refine Kr_i (by kernel_rfl) ?_; generalize hk : plain _ _ = G; simp only [lv, E3, E2, E5, rawX, deadX, SB, List.not_mem_nil, ↓reduceIte, ne_eq, reduceCtorEq, Nat.reduceLT, Nat.reduceEqDiff, Nat.reduceAdd, Nat.reduceMul, Nat.reduceLeDiff, Nat.reduceDiv, Nat.reduceMod, Nat.reduceSub, Nat.reduceBEq, List.length_map, rn_len, nts_len, prs_len, prs_cnt, nts_cnt, rn_cnt10, cnt_two, List.length_set, Int.add_sub_cancel, List.length_append, List.length_replicate] at hk; subst hk)
        | with_reducible refine vSeq_i ?_
        | with_reducible first | refine vRegion_i (by kernel_rfl) ?_ | refine Kv_i ?_
        | ((with_reducible apply vStrK_i); (focus (rfl; done)))
        | ((with_reducible refine imp_i ?_); intro _)
        | with_reducible first | refine Ks_n ?_ | refine Ks_r ?_ | refine Ks_e ?_ | refine Kl_e ?_ | refine Kx_n ?_ | refine Kl_r ?_ | refine vRet_i ?_ | refine vSkip_i ?_ | refine vExit_i ?_ | refine vBlock_i ?_ | refine Ks_p ?_ | refine Kl_p ?_ | refine blk_p ?_ | exact Kb_p | refine vGoto_i ?_ | refine vLabel_i ?_ | refine Ks_g ?_ | refine Kl_g ?_ | refine blk_g ?_ | refine jmp_g ?_ | refine jmp_n ?_ | refine jmp_r ?_ | refine nog_n ?_ | refine nog_r ?_ | refine blk_n ?_ | refine blk_r ?_ | refine blk_e ?_ | refine blk_o (by decide) ?_ | refine cp_t ?_ | refine cp_f ?_
        | ((with_reducible apply vCond_x); (focus (simp only [lv, E1, E2, E5, ET, T, orc_mv, noO_mv, mvB, orc_bx, noO_bx, bxB, orc_sx, noO_sx, sxB, fwd, fwds, inv, mOk, Int.toNat_natCast, Nat.div_one, Nat.mul_one, Int.reduceToNat, SB, List.not_mem_nil, ↓reduceIte, ne_eq, reduceCtorEq, Nat.reduceLT, Nat.reduceEqDiff, Nat.reduceAdd, Nat.reduceMul, Nat.reduceLeDiff, Nat.reduceDiv, Nat.reduceMod, Nat.reduceSub, Nat.reduceBEq, List.length_map, rn_len, nts_len, prs_len, prs_cnt, nts_cnt, rn_cnt10, cnt_two, List.length_set, Int.add_sub_cancel, List.length_append, List.length_replicate]; with_reducible first | exact Eq.refl (bo true) | exact Eq.refl (bo false))))
        | ((with_reducible refine And.intro ?_ ?_); (focus (try omega)))
      all_goals try (exfalso; omega)
      exact Kl_n ⟨j + 1, by omega, by omega, by rw [rep_rn2, rep_nts2]; simp only [Int.natCast_add, Int.natCast_one]⟩
    · obtain rfl : j = i := by omega
      have q1 := pairs_ok (deepL j (opnF w) (clsF w)) (deepT j) (by rw [deep_len, deepT_len]) (by rw [deep_len]; omega)
      by_cases h63 : 63 < j
      · rw [deep_stop hD h63] at q1
        repeat' first
          | ((first
              | ((with_reducible refine vR_cons (by decide) ?_); generalize hk : KtR _ _ _ _ _ _ _ _ _ _ = k)
              | ((first
              | with_reducible refine vOps_cons' ?_
              | ((with_reducible apply orc_i); (focus (exact q1; done)))) <;> generalize hk : Kt _ _ _ _ _ _ _ _ _ = k)) <;> (simp only [Try.f7, lv, E1, E2, E5, ET, T, orc_mv, noO_mv, mvB, orc_bx, noO_bx, bxB, orc_sx, noO_sx, sxB, fwd, fwds, inv, mOk, Int.toNat_natCast, Nat.div_one, Nat.mul_one, Int.reduceToNat, SB, List.not_mem_nil, ↓reduceIte, ne_eq, reduceCtorEq, Nat.reduceLT, Nat.reduceEqDiff, Nat.reduceAdd, Nat.reduceMul, Nat.reduceLeDiff, Nat.reduceDiv, Nat.reduceMod, Nat.reduceSub, Nat.reduceBEq, List.length_map, rn_len, nts_len, prs_len, prs_cnt, nts_cnt, rn_cnt10, cnt_two, List.length_set, Int.add_sub_cancel, List.length_append, List.length_replicate]; (try simp (disch := omega) only [wrap_in, Int.toNat_natCast, tv_rn, tv_nts, tv_prs0, tv_prs1, tv_opn, tv_cls]); subst hk))
          | with_reducible first | refine Kt_p ?_ | refine Kt_i (by kernel_rfl) ?_ | refine Kr_f (by kernel_rfl) ?_
          | (with_reducible refine Kr_t ?_; simp only [List.length_append, List.length_cons, List.length_nil, Nat.reduceAdd, Nat.reduceSub, List.drop_succ_cons, List.drop_zero])
          | with_reducible first | refine vR_nil ?_ | refine KtR_i (by kernel_rfl) ?_ | refine KrR_i (by kernel_rfl) ?_ | refine vR_skip (by decide) ?_
          | ((with_reducible refine vB_i ?_ ?_) <;> intro _ <;> (first | (exfalso; omega) | (exact absurd trivial ‹¬True›) | (try dsimp only [])))
          | ((with_reducible refine vOps_nil' ?_); refine Kr_i (by kernel_rfl) ?_; generalize hk : plain _ _ = G; simp only [lv, E3, E2, E5, rawX, deadX, SB, List.not_mem_nil, ↓reduceIte, ne_eq, reduceCtorEq, Nat.reduceLT, Nat.reduceEqDiff, Nat.reduceAdd, Nat.reduceMul, Nat.reduceLeDiff, Nat.reduceDiv, Nat.reduceMod, Nat.reduceSub, Nat.reduceBEq, List.length_map, rn_len, nts_len, prs_len, prs_cnt, nts_cnt, rn_cnt10, cnt_two, List.length_set, Int.add_sub_cancel, List.length_append, List.length_replicate] at hk; subst hk)
          | with_reducible refine vSeq_i ?_
          | with_reducible first | refine vRegion_i (by kernel_rfl) ?_ | refine Kv_i ?_
          | ((with_reducible apply vStrK_i); (focus (rfl; done)))
          | ((with_reducible refine imp_i ?_); intro _)
          | with_reducible first | refine Ks_n ?_ | refine Ks_r ?_ | refine Ks_e ?_ | refine Kl_e ?_ | refine Kx_n ?_ | refine Kl_r ?_ | refine vRet_i ?_ | refine vSkip_i ?_ | refine vExit_i ?_ | refine vBlock_i ?_ | refine Ks_p ?_ | refine Kl_p ?_ | refine blk_p ?_ | exact Kb_p | refine vGoto_i ?_ | refine vLabel_i ?_ | refine Ks_g ?_ | refine Kl_g ?_ | refine blk_g ?_ | refine jmp_g ?_ | refine jmp_n ?_ | refine jmp_r ?_ | refine nog_n ?_ | refine nog_r ?_ | refine blk_n ?_ | refine blk_r ?_ | refine blk_e ?_ | refine blk_o (by decide) ?_ | refine cp_t ?_ | refine cp_f ?_
          | ((with_reducible apply vCond_x); (focus (simp only [lv, E1, E2, E5, ET, T, orc_mv, noO_mv, mvB, orc_bx, noO_bx, bxB, orc_sx, noO_sx, sxB, fwd, fwds, inv, mOk, Int.toNat_natCast, Nat.div_one, Nat.mul_one, Int.reduceToNat, SB, List.not_mem_nil, ↓reduceIte, ne_eq, reduceCtorEq, Nat.reduceLT, Nat.reduceEqDiff, Nat.reduceAdd, Nat.reduceMul, Nat.reduceLeDiff, Nat.reduceDiv, Nat.reduceMod, Nat.reduceSub, Nat.reduceBEq, List.length_map, rn_len, nts_len, prs_len, prs_cnt, nts_cnt, rn_cnt10, cnt_two, List.length_set, Int.add_sub_cancel, List.length_append, List.length_replicate]; with_reducible first | exact Eq.refl (bo true) | exact Eq.refl (bo false))))
          | ((with_reducible refine And.intro ?_ ?_); (focus (try omega)))
        all_goals try (exfalso; omega)
        refine Kf_r ?_
        simp only [Try.f7, E4, E3, E2, E5, rawX, deadX, ET, T, SB, List.not_mem_nil, ↓reduceIte, ne_eq, reduceCtorEq, Nat.reduceLT, Nat.reduceEqDiff, Nat.reduceAdd, Nat.reduceMul, Nat.reduceLeDiff, Nat.reduceDiv, Nat.reduceMod, Nat.reduceSub, Nat.reduceBEq, List.length_map, rn_len, nts_len, prs_len, prs_cnt, nts_cnt, rn_cnt10, cnt_two, List.length_set, Int.add_sub_cancel, List.length_append, List.length_replicate]
      · obtain ⟨hP1, hP2⟩ := deep_pairs hD (by omega : j ≤ 63)
        generalize prsF (deepL j (opnF w) (clsF w)) (deepT j) = P at q1 hP1 hP2
        repeat' first
          | ((first
              | ((with_reducible refine vR_cons (by decide) ?_); generalize hk : KtR _ _ _ _ _ _ _ _ _ _ = k)
              | ((first
              | with_reducible refine vOps_cons' ?_
              | ((with_reducible apply orc_i); (focus (exact q1; done)))) <;> generalize hk : Kt _ _ _ _ _ _ _ _ _ = k)) <;> (simp only [Try.f7, lv, E1, E2, E5, ET, T, orc_mv, noO_mv, mvB, orc_bx, noO_bx, bxB, orc_sx, noO_sx, sxB, fwd, fwds, inv, mOk, Int.toNat_natCast, Nat.div_one, Nat.mul_one, Int.reduceToNat, SB, List.not_mem_nil, ↓reduceIte, ne_eq, reduceCtorEq, Nat.reduceLT, Nat.reduceEqDiff, Nat.reduceAdd, Nat.reduceMul, Nat.reduceLeDiff, Nat.reduceDiv, Nat.reduceMod, Nat.reduceSub, Nat.reduceBEq, List.length_map, rn_len, nts_len, prs_len, prs_cnt, nts_cnt, rn_cnt10, cnt_two, List.length_set, Int.add_sub_cancel, List.length_append, List.length_replicate]; (try simp (disch := omega) only [wrap_in, Int.toNat_natCast, tv_rn, tv_nts, tv_prs0, tv_prs1, tv_opn, tv_cls]); subst hk))
          | with_reducible first | refine Kt_p ?_ | refine Kt_i (by kernel_rfl) ?_ | refine Kr_f (by kernel_rfl) ?_
          | (with_reducible refine Kr_t ?_; simp only [List.length_append, List.length_cons, List.length_nil, Nat.reduceAdd, Nat.reduceSub, List.drop_succ_cons, List.drop_zero])
          | with_reducible first | refine vR_nil ?_ | refine KtR_i (by kernel_rfl) ?_ | refine KrR_i (by kernel_rfl) ?_ | refine vR_skip (by decide) ?_
          | ((with_reducible refine vB_i ?_ ?_) <;> intro _ <;> (first | (exfalso; omega) | (exact absurd trivial ‹¬True›) | (try dsimp only [])))
          | ((with_reducible refine vOps_nil' ?_); refine Kr_i (by kernel_rfl) ?_; generalize hk : plain _ _ = G; simp only [lv, E3, E2, E5, rawX, deadX, SB, List.not_mem_nil, ↓reduceIte, ne_eq, reduceCtorEq, Nat.reduceLT, Nat.reduceEqDiff, Nat.reduceAdd, Nat.reduceMul, Nat.reduceLeDiff, Nat.reduceDiv, Nat.reduceMod, Nat.reduceSub, Nat.reduceBEq, List.length_map, rn_len, nts_len, prs_len, prs_cnt, nts_cnt, rn_cnt10, cnt_two, List.length_set, Int.add_sub_cancel, List.length_append, List.length_replicate] at hk; subst hk)
          | with_reducible refine vSeq_i ?_
          | with_reducible first | refine vRegion_i (by kernel_rfl) ?_ | refine Kv_i ?_
          | ((with_reducible apply vStrK_i); (focus (rfl; done)))
          | ((with_reducible refine imp_i ?_); intro _)
          | with_reducible first | refine Ks_n ?_ | refine Ks_r ?_ | refine Ks_e ?_ | refine Kl_e ?_ | refine Kx_n ?_ | refine Kl_r ?_ | refine vRet_i ?_ | refine vSkip_i ?_ | refine vExit_i ?_ | refine vBlock_i ?_ | refine Ks_p ?_ | refine Kl_p ?_ | refine blk_p ?_ | exact Kb_p | refine vGoto_i ?_ | refine vLabel_i ?_ | refine Ks_g ?_ | refine Kl_g ?_ | refine blk_g ?_ | refine jmp_g ?_ | refine jmp_n ?_ | refine jmp_r ?_ | refine nog_n ?_ | refine nog_r ?_ | refine blk_n ?_ | refine blk_r ?_ | refine blk_e ?_ | refine blk_o (by decide) ?_ | refine cp_t ?_ | refine cp_f ?_
          | ((with_reducible apply vCond_x); (focus (simp only [lv, E1, E2, E5, ET, T, orc_mv, noO_mv, mvB, orc_bx, noO_bx, bxB, orc_sx, noO_sx, sxB, fwd, fwds, inv, mOk, Int.toNat_natCast, Nat.div_one, Nat.mul_one, Int.reduceToNat, SB, List.not_mem_nil, ↓reduceIte, ne_eq, reduceCtorEq, Nat.reduceLT, Nat.reduceEqDiff, Nat.reduceAdd, Nat.reduceMul, Nat.reduceLeDiff, Nat.reduceDiv, Nat.reduceMod, Nat.reduceSub, Nat.reduceBEq, List.length_map, rn_len, nts_len, prs_len, prs_cnt, nts_cnt, rn_cnt10, cnt_two, List.length_set, Int.add_sub_cancel, List.length_append, List.length_replicate]; with_reducible first | exact Eq.refl (bo true) | exact Eq.refl (bo false))))
          | ((with_reducible refine And.intro ?_ ?_); (focus (try omega)))
        all_goals try (exfalso; omega)
        refine vLoop_s (fun k : Nat => [(.t 0, .t (i64 j)), (.t 12, .t (.p (.one (.sr 0)))), (.t 71, .t (.p (.one (.sr 0)))), (.t 72, .t (i64 P.length)), (.t 73, .t (i64 k)), (.row 0, .row 42 2 (prs P))]) (fun k => k ≤ j) (fun k => j - k) 0 (by omega) rfl ?_
        rintro k hk
        by_cases hkj : k < j
        · have hp := hP2 k hkj
          have hpa : (P.getD k (0, 0)).1 = (k : Int) := by rw [hp]
          have hpb : (P.getD k (0, 0)).2 = ((2 * j - 1 - k : Nat) : Int) := by rw [hp]
          repeat' first
            | ((first
                | ((with_reducible refine vR_cons (by decide) ?_); generalize hk : KtR _ _ _ _ _ _ _ _ _ _ = k)
                | ((first
                | with_reducible refine vOps_cons' ?_) <;> generalize hk : Kt _ _ _ _ _ _ _ _ _ = k)) <;> (simp only [Try.f7, lv, E1, E2, E5, ET, T, orc_mv, noO_mv, mvB, orc_bx, noO_bx, bxB, orc_sx, noO_sx, sxB, fwd, fwds, inv, mOk, Int.toNat_natCast, Nat.div_one, Nat.mul_one, Int.reduceToNat, SB, List.not_mem_nil, ↓reduceIte, ne_eq, reduceCtorEq, Nat.reduceLT, Nat.reduceEqDiff, Nat.reduceAdd, Nat.reduceMul, Nat.reduceLeDiff, Nat.reduceDiv, Nat.reduceMod, Nat.reduceSub, Nat.reduceBEq, List.length_map, rn_len, nts_len, prs_len, prs_cnt, nts_cnt, rn_cnt10, cnt_two, List.length_set, Int.add_sub_cancel, List.length_append, List.length_replicate]; (try simp (disch := omega) only [wrap_in, Int.toNat_natCast, tv_rn, tv_nts, tv_prs0, tv_prs1, tv_opn, tv_cls]); subst hk))
            | with_reducible first | refine Kt_p ?_ | refine Kt_i (by kernel_rfl) ?_ | refine Kr_f (by kernel_rfl) ?_
            | (with_reducible refine Kr_t ?_; simp only [List.length_append, List.length_cons, List.length_nil, Nat.reduceAdd, Nat.reduceSub, List.drop_succ_cons, List.drop_zero])
            | with_reducible first | refine vR_nil ?_ | refine KtR_i (by kernel_rfl) ?_ | refine KrR_i (by kernel_rfl) ?_ | refine vR_skip (by decide) ?_
            | ((with_reducible refine vB_i ?_ ?_) <;> intro _ <;> (first | (exfalso; omega) | (exact absurd trivial ‹¬True›) | (try dsimp only [])))
            | ((with_reducible refine vOps_nil' ?_); refine Kr_i (by kernel_rfl) ?_; generalize hk : plain _ _ = G; simp only [lv, E3, E2, E5, rawX, deadX, SB, List.not_mem_nil, ↓reduceIte, ne_eq, reduceCtorEq, Nat.reduceLT, Nat.reduceEqDiff, Nat.reduceAdd, Nat.reduceMul, Nat.reduceLeDiff, Nat.reduceDiv, Nat.reduceMod, Nat.reduceSub, Nat.reduceBEq, List.length_map, rn_len, nts_len, prs_len, prs_cnt, nts_cnt, rn_cnt10, cnt_two, List.length_set, Int.add_sub_cancel, List.length_append, List.length_replicate] at hk; subst hk)
            | with_reducible refine vSeq_i ?_
            | with_reducible first | refine vRegion_i (by kernel_rfl) ?_ | refine Kv_i ?_
            | ((with_reducible apply vStrK_i); (focus (rfl; done)))
            | ((with_reducible refine imp_i ?_); intro _)
            | with_reducible first | refine Ks_n ?_ | refine Ks_r ?_ | refine Ks_e ?_ | refine Kl_e ?_ | refine Kx_n ?_ | refine Kl_r ?_ | refine vRet_i ?_ | refine vSkip_i ?_ | refine vExit_i ?_ | refine vBlock_i ?_ | refine Ks_p ?_ | refine Kl_p ?_ | refine blk_p ?_ | exact Kb_p | refine vGoto_i ?_ | refine vLabel_i ?_ | refine Ks_g ?_ | refine Kl_g ?_ | refine blk_g ?_ | refine jmp_g ?_ | refine jmp_n ?_ | refine jmp_r ?_ | refine nog_n ?_ | refine nog_r ?_ | refine blk_n ?_ | refine blk_r ?_ | refine blk_e ?_ | refine blk_o (by decide) ?_ | refine cp_t ?_ | refine cp_f ?_
            | ((with_reducible apply vCond_x); (focus (simp only [lv, E1, E2, E5, ET, T, orc_mv, noO_mv, mvB, orc_bx, noO_bx, bxB, orc_sx, noO_sx, sxB, fwd, fwds, inv, mOk, Int.toNat_natCast, Nat.div_one, Nat.mul_one, Int.reduceToNat, SB, List.not_mem_nil, ↓reduceIte, ne_eq, reduceCtorEq, Nat.reduceLT, Nat.reduceEqDiff, Nat.reduceAdd, Nat.reduceMul, Nat.reduceLeDiff, Nat.reduceDiv, Nat.reduceMod, Nat.reduceSub, Nat.reduceBEq, List.length_map, rn_len, nts_len, prs_len, prs_cnt, nts_cnt, rn_cnt10, cnt_two, List.length_set, Int.add_sub_cancel, List.length_append, List.length_replicate]; with_reducible first | exact Eq.refl (bo true) | exact Eq.refl (bo false))))
            | ((with_reducible refine And.intro ?_ ?_); (focus (try omega)))
          all_goals try (exfalso; omega)
          all_goals exact Kl_n ⟨k + 1, by omega, by omega, by simp only [Int.natCast_add, Int.natCast_one]⟩
        · skip
          repeat' first
            | ((first
                | ((with_reducible refine vR_cons (by decide) ?_); generalize hk : KtR _ _ _ _ _ _ _ _ _ _ = k)
                | ((first
                | with_reducible refine vOps_cons' ?_) <;> generalize hk : Kt _ _ _ _ _ _ _ _ _ = k)) <;> (simp only [Try.f7, lv, E1, E2, E5, ET, T, orc_mv, noO_mv, mvB, orc_bx, noO_bx, bxB, orc_sx, noO_sx, sxB, fwd, fwds, inv, mOk, Int.toNat_natCast, Nat.div_one, Nat.mul_one, Int.reduceToNat, SB, List.not_mem_nil, ↓reduceIte, ne_eq, reduceCtorEq, Nat.reduceLT, Nat.reduceEqDiff, Nat.reduceAdd, Nat.reduceMul, Nat.reduceLeDiff, Nat.reduceDiv, Nat.reduceMod, Nat.reduceSub, Nat.reduceBEq, List.length_map, rn_len, nts_len, prs_len, prs_cnt, nts_cnt, rn_cnt10, cnt_two, List.length_set, Int.add_sub_cancel, List.length_append, List.length_replicate]; (try simp (disch := omega) only [wrap_in, Int.toNat_natCast, tv_rn, tv_nts, tv_prs0, tv_prs1, tv_opn, tv_cls]); subst hk))
            | with_reducible first | refine Kt_p ?_ | refine Kt_i (by kernel_rfl) ?_ | refine Kr_f (by kernel_rfl) ?_
            | (with_reducible refine Kr_t ?_; simp only [List.length_append, List.length_cons, List.length_nil, Nat.reduceAdd, Nat.reduceSub, List.drop_succ_cons, List.drop_zero])
            | with_reducible first | refine vR_nil ?_ | refine KtR_i (by kernel_rfl) ?_ | refine KrR_i (by kernel_rfl) ?_ | refine vR_skip (by decide) ?_
            | ((with_reducible refine vB_i ?_ ?_) <;> intro _ <;> (first | (exfalso; omega) | (exact absurd trivial ‹¬True›) | (try dsimp only [])))
            | ((with_reducible refine vOps_nil' ?_); refine Kr_i (by kernel_rfl) ?_; generalize hk : plain _ _ = G; simp only [lv, E3, E2, E5, rawX, deadX, SB, List.not_mem_nil, ↓reduceIte, ne_eq, reduceCtorEq, Nat.reduceLT, Nat.reduceEqDiff, Nat.reduceAdd, Nat.reduceMul, Nat.reduceLeDiff, Nat.reduceDiv, Nat.reduceMod, Nat.reduceSub, Nat.reduceBEq, List.length_map, rn_len, nts_len, prs_len, prs_cnt, nts_cnt, rn_cnt10, cnt_two, List.length_set, Int.add_sub_cancel, List.length_append, List.length_replicate] at hk; subst hk)
            | with_reducible refine vSeq_i ?_
            | with_reducible first | refine vRegion_i (by kernel_rfl) ?_ | refine Kv_i ?_
            | ((with_reducible apply vStrK_i); (focus (rfl; done)))
            | ((with_reducible refine imp_i ?_); intro _)
            | with_reducible first | refine Ks_n ?_ | refine Ks_r ?_ | refine Ks_e ?_ | refine Kl_e ?_ | refine Kx_n ?_ | refine Kl_r ?_ | refine vRet_i ?_ | refine vSkip_i ?_ | refine vExit_i ?_ | refine vBlock_i ?_ | refine Ks_p ?_ | refine Kl_p ?_ | refine blk_p ?_ | exact Kb_p | refine vGoto_i ?_ | refine vLabel_i ?_ | refine Ks_g ?_ | refine Kl_g ?_ | refine blk_g ?_ | refine jmp_g ?_ | refine jmp_n ?_ | refine jmp_r ?_ | refine nog_n ?_ | refine nog_r ?_ | refine blk_n ?_ | refine blk_r ?_ | refine blk_e ?_ | refine blk_o (by decide) ?_ | refine cp_t ?_ | refine cp_f ?_
            | ((with_reducible apply vCond_x); (focus (simp only [lv, E1, E2, E5, ET, T, orc_mv, noO_mv, mvB, orc_bx, noO_bx, bxB, orc_sx, noO_sx, sxB, fwd, fwds, inv, mOk, Int.toNat_natCast, Nat.div_one, Nat.mul_one, Int.reduceToNat, SB, List.not_mem_nil, ↓reduceIte, ne_eq, reduceCtorEq, Nat.reduceLT, Nat.reduceEqDiff, Nat.reduceAdd, Nat.reduceMul, Nat.reduceLeDiff, Nat.reduceDiv, Nat.reduceMod, Nat.reduceSub, Nat.reduceBEq, List.length_map, rn_len, nts_len, prs_len, prs_cnt, nts_cnt, rn_cnt10, cnt_two, List.length_set, Int.add_sub_cancel, List.length_append, List.length_replicate]; with_reducible first | exact Eq.refl (bo true) | exact Eq.refl (bo false))))
            | ((with_reducible refine And.intro ?_ ?_); (focus (try omega)))
          all_goals try (exfalso; omega)
          all_goals refine Kf_r ?_
          all_goals simp only [Try.f7, E4, E3, E2, E5, rawX, deadX, ET, T, SB, List.not_mem_nil, ↓reduceIte, ne_eq, reduceCtorEq, Nat.reduceLT, Nat.reduceEqDiff, Nat.reduceAdd, Nat.reduceMul, Nat.reduceLeDiff, Nat.reduceDiv, Nat.reduceMod, Nat.reduceSub, Nat.reduceBEq, List.length_map, rn_len, nts_len, prs_len, prs_cnt, nts_cnt, rn_cnt10, cnt_two, List.length_set, Int.add_sub_cancel, List.length_append, List.length_replicate, X.p.injEq, X.tup.injEq, PX.one.injEq, PX.agg.injEq, TV.v.injEq, TV.sr.injEq, SV.raw.injEq, SV.sl.injEq, Value.bool.injEq, Value.int.injEq, List.cons.injEq, Prod.mk.injEq, true_and, and_true, and_self]
end Go.Proofs.YtncabdcaamkhiaaG
/- L10e: BracketDeep at what came in. -/
namespace Go.Proofs.YtncabdcaamkhiaaG
open Go Go.RowKit Go.Proofs Go.Proofs.Ytncabdcaamkhiaa
theorem bracketDeep_in {W : World} {v0 v1 : Value} {x0 x1 : SV} (t0 : Typ T 1048576 3 [x0]) (a0 : XR W (gI W) v0 (.p (.one (.v x0)))) (t1 : Typ T 1048576 3 [x1]) (a1 : XR W (gI W) v1 (.p (.one (.v x1)))) :
    Calls Try.prog 7 #[v0, v1] W fun e W' => e = .returned (.bool true) ∧ Below W.heap.size W W' := by
  obtain ⟨n, rfl⟩ := typ_i64 t0
  obtain ⟨w, rfl⟩ := typ_i64 t1
  exact law_calls (bracketDeep_law n w) (.cons a0 (.cons a1 .nil))
end Go.Proofs.YtncabdcaamkhiaaG
