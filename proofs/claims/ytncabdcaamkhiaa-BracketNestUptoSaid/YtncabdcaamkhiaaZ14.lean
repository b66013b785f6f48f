/- YtncabdcaamkhiaaZ14: a part of the proof, joined of its texts. -/
import Derived.Test.YtncabdcaamkhiaaZ13
namespace Go.Proofs.YtncabdcaamkhiaaG
open Go Go.RowKit Go.Proofs
set_option linter.unusedSimpArgs false
set_option linter.unusedVariables false
/-! ### the machine of pairs -/
/-- The place of the newest opening that i ends, among the first k. -/
def fnd (l : List Int) (W : List Nat) (i : Nat) : Nat → Option Nat
  | 0 => none
  | k + 1 => if endsF l (W.getD k 0) i = true then some k else fnd l W i k
abbrev WS := List Nat × List (Int × Int)
def stW (l t : List Int) : Nat → WS × Bool
  | 0 => (([], []), false)
  | i + 1 =>
    if (stW l t i).2 = true then stW l t i
    else if kindF l t i = 1 then (if (stW l t i).1.1.length = 63 then ((stW l t i).1, true) else (((stW l t i).1.1 ++ [i], (stW l t i).1.2), false))
    else if kindF l t i = 2 then (match fnd l (stW l t i).1.1 i (stW l t i).1.1.length with
      | none => stW l t i
      | some k => (((stW l t i).1.1.take k, (stW l t i).1.2 ++ [((((stW l t i).1.1.getD k 0 : Nat) : Int), (i : Int))]), false))
    else stW l t i
theorem fnd_lt {l : List Int} {W : List Nat} {i : Nat} : ∀ {n k}, fnd l W i n = some k → k < n ∧ endsF l (W.getD k 0) i = true
  | 0, _, h => by cases h
  | n + 1, k, h => by
    unfold fnd at h
    split at h
    · rename_i q; cases h; exact ⟨by omega, q⟩
    · have := fnd_lt h; exact ⟨by omega, this.2⟩
structure Wok (i : Nat) (z : WS) : Prop where
  lt : ∀ j ∈ z.1, j < i
  nd : (z.1.map (fun (j : Nat) => (j : Int)) ++ z.2.map (·.1)).Nodup
  len : z.1.length ≤ 63
  pr : ∀ p ∈ z.2, 0 ≤ p.1 ∧ p.1 < p.2 ∧ p.2 < (i : Int)
theorem Wok.mono {i j : Nat} {z : WS} (h : Wok i z) (hij : i ≤ j) : Wok j z :=
  ⟨fun x hx => Nat.lt_of_lt_of_le (h.lt x hx) hij, h.nd, h.len, fun p hp => by have := h.pr p hp; omega⟩
theorem getD_el {W : List Nat} {k : Nat} (h : k < W.length) : W.getD k 0 = W[k] := by
  rw [List.getD_eq_getElem?_getD, List.getElem?_eq_getElem h]; rfl
theorem getD_mem {W : List Nat} {k : Nat} (h : k < W.length) : W.getD k 0 ∈ W := by
  rw [getD_el h]; exact List.getElem_mem h
theorem stW_ok (l t : List Int) : ∀ i, Wok i (stW l t i).1
  | 0 => ⟨by simp [stW], by simp [stW], by simp [stW], by simp [stW]⟩
  | i + 1 => by
    have ih := stW_ok l t i
    unfold stW
    split
    · exact ih.mono (Nat.le_succ _)
    · split
      · split
        · exact ih.mono (Nat.le_succ _)
        · rename_i hq
          refine ⟨fun j hj => ?_, ?_, ?_, fun p hp => ?_⟩
          · simp only [List.mem_append, List.mem_singleton] at hj
            rcases hj with hj | rfl
            · have := ih.lt j hj; omega
            · omega
          · have h1 := ih.nd
            have h2 : (i : Int) ∉ (stW l t i).1.1.map (fun (j : Nat) => (j : Int)) ++ (stW l t i).1.2.map (·.1) := by
              intro hm
              rcases List.mem_append.1 hm with hm | hm
              · obtain ⟨j, hj, e⟩ := List.mem_map.1 hm
                have := ih.lt j hj; omega
              · obtain ⟨p, hp, e⟩ := List.mem_map.1 hm
                have := ih.pr p hp; omega
            simp only [List.map_append, List.map_cons, List.map_nil, List.append_assoc]
            rw [List.nodup_append] at h1 ⊢
            simp only [List.mem_append, not_or] at h2
            refine ⟨h1.1, ?_, ?_⟩
            · simp only [List.cons_append, List.nil_append, List.nodup_cons]
              exact ⟨h2.2, h1.2.1⟩
            · intro a ha b hb e
              simp only [List.cons_append, List.nil_append, List.mem_cons] at hb
              rcases hb with rfl | hb
              · exact h2.1 (e ▸ ha)
              · exact h1.2.2 a ha b hb e
          · have := ih.len
            simp only [List.length_append, List.length_cons, List.length_nil]; omega
          · have := ih.pr p hp; omega
      · split
        · split
          · exact ih.mono (Nat.le_succ _)
          · rename_i k hk
            have hk' := (fnd_lt hk).1
            have hm := getD_mem hk'
            refine ⟨fun j hj => ?_, ?_, ?_, fun p hp => ?_⟩
            · have := ih.lt j (List.mem_of_mem_take hj); omega
            · have h1 := ih.nd
              rw [List.nodup_append] at h1 ⊢
              have hs : (List.take k (stW l t i).1.1 ++ [(stW l t i).1.1.getD k 0]).Sublist (stW l t i).1.1 := by
                have : List.take k (stW l t i).1.1 ++ [(stW l t i).1.1.getD k 0] = List.take (k + 1) (stW l t i).1.1 := by
                  rw [List.take_add_one, getD_el hk', List.getElem?_eq_getElem hk']; rfl
                rw [this]; exact List.take_sublist _ _
              have hd := List.Nodup.sublist (hs.map fun (j : Nat) => (j : Int)) h1.1
              simp only [List.map_append, List.map_cons, List.map_nil] at hd ⊢
              rw [List.nodup_append] at hd
              refine ⟨hd.1, ?_, ?_⟩
              · rw [List.nodup_append]
                refine ⟨h1.2.1, by simp, fun a ha b hb e => ?_⟩
                simp only [List.mem_singleton] at hb
                exact h1.2.2 b (hb ▸ List.mem_map.2 ⟨_, hm, rfl⟩) a ha e.symm
              · intro a ha b hb e
                rcases List.mem_append.1 hb with hb | hb
                · exact h1.2.2 a ((List.take_sublist _ _).map _ |>.subset ha) b hb e
                · exact hd.2.2 a ha b hb e
            · have := ih.len
              simp only [List.length_take]; omega
            · rcases List.mem_append.1 hp with hp | hp
              · have := ih.pr p hp; omega
              · simp only [List.mem_singleton] at hp
                have := ih.lt _ hm
                subst hp
                refine ⟨by simp, ?_, ?_⟩ <;> simp only [] <;> omega
        · exact ih.mono (Nat.le_succ _)
theorem stW_stop (l t : List Int) {i : Nat} (h : (stW l t i).2 = true) : ∀ n, i ≤ n → stW l t n = stW l t i
  | 0, hn => by rw [show i = 0 by omega]
  | n + 1, hn => by
    rcases Nat.lt_or_eq_of_le hn with q | q
    · have := stW_stop l t h n (by omega)
      rw [stW, this, if_pos h]
    · rw [q]
/-- The pairs, rising. -/
def rising (n : Nat) (O : List (Int × Int)) : List (Int × Int) := (List.range n).filterMap fun (i : Nat) => O.find? fun p => p.1 == (i : Int)
def prsF (l t : List Int) : List (Int × Int) := rising l.length (stW l t l.length).1.2
theorem rising_mem {n : Nat} {O : List (Int × Int)} (hn : (O.map (·.1)).Nodup) (hb : ∀ p ∈ O, 0 ≤ p.1 ∧ p.1 < (n : Int)) (p : Int × Int) : p ∈ rising n O ↔ p ∈ O := by
  unfold rising
  simp only [List.mem_filterMap, List.mem_range]
  constructor
  · rintro ⟨i, _, h⟩; exact List.mem_of_find?_eq_some h
  · intro h
    have hp := hb p h
    refine ⟨p.1.toNat, by omega, ?_⟩
    clear hb
    induction O with
    | nil => cases h
    | cons q O ih =>
      simp only [List.map_cons, List.nodup_cons] at hn
      rw [List.find?_cons]
      rcases List.mem_cons.1 h with rfl | h'
      · rw [show (p.1 == (p.1.toNat : Int)) = true by rw [beq_iff_eq]; omega]
      · have hne : ¬ q.1 = p.1 := fun e => hn.1 (e ▸ List.mem_map.2 ⟨p, h', rfl⟩)
        rw [show (q.1 == (p.1.toNat : Int)) = false by rw [beq_eq_false_iff_ne]; omega]
        exact ih hn.2 h'
theorem rising_sorted (n : Nat) (O : List (Int × Int)) : (rising n O).Pairwise fun x y => x.1 < y.1 := by
  unfold rising
  refine List.Pairwise.filterMap _ ?_ (List.pairwise_lt_range (n := n))
  intro a b hab x hx y hy
  have h1 := List.find?_some hx
  have h2 := List.find?_some hy
  simp only [beq_iff_eq] at h1 h2
  omega
theorem perm_of_mem {l l' : List (Int × Int)} (h : l.Nodup) (h' : l'.Nodup) (hm : ∀ p, p ∈ l ↔ p ∈ l') : l.Perm l' := by
  rw [List.perm_iff_count]
  intro a
  have h1 := List.nodup_iff_count.1 h a
  have h2 := List.nodup_iff_count.1 h' a
  have h3 : 0 < l.count a ↔ 0 < l'.count a := by rw [List.count_pos_iff, List.count_pos_iff]; exact hm a
  omega
theorem nodup_of_map {l : List (Int × Int)} (h : (l.map (·.1)).Nodup) : l.Nodup := by
  induction l with
  | nil => exact List.nodup_nil
  | cons a l ih =>
    simp only [List.map_cons, List.nodup_cons] at h
    exact List.nodup_cons.2 ⟨fun q => h.1 (List.mem_map.2 ⟨a, q, rfl⟩), ih h.2⟩
theorem rising_perm {n : Nat} {O : List (Int × Int)} (hn : (O.map (·.1)).Nodup) (hb : ∀ p ∈ O, 0 ≤ p.1 ∧ p.1 < (n : Int)) : (rising n O).Perm O := by
  refine perm_of_mem ?_ (nodup_of_map hn) (rising_mem hn hb)
  refine (rising_sorted n O).imp ?_
  intro a b h e
  subst e; omega
end Go.Proofs.YtncabdcaamkhiaaG
/- G18: a function whose body ends in a scope with a label. -/
namespace Go.Proofs.YtncabdcaamkhiaaG
open Go Go.RowKit
set_option linter.unusedVariables false
set_option linter.unusedSimpArgs false
/-- A function whose body ends in a scope with one label. -/
theorem fn_okS2 {P : Program} {T : Tab} {O : Orc} (hT : Tok P T) (hO : OrcOk P O) (hm : P.follows .mixedOrders = true) {f : Nat} {fn : Func} {x c rest : Code} {l : Nat} (hf : P.funcs[f]? = some fn) (hb : fn.body = some (.seq x (.scope c))) (hl : findLabel c l = some rest) (hcb : callableB fn = true) (vars : Nat → List Nat) (nt : Nat) (hnt : fn.ntmps = nt)
    {args : List X} {res : X} {rows : Rows} {fr : Bool} (hn : args.length ≤ nt) (hres : res.all TV.res = true) (hfr : fr = true → res.all TV.rawR = true ∧ ∀ r ∈ rows, ∀ x ∈ r.2.2, x.isRaw = true)
    (h : vCode T O nt vars x (argsG 0 args) (GEx.seq (fun G1 => vCode T O nt vars c G1 (GEx.jmp l (fun G' => vCode T O nt vars rest G' (GEx.nog (Kf T fn.results.toList res rows))) (Kf T fn.results.toList res rows))) (GEx.nog (Kf T fn.results.toList res rows)))) : CallOk P f args res rows fr := by
  subst hnt
  refine ⟨callable_of hf hcb, hres, hfr, fun w vs g hg hlt hall => ?_⟩
  refine callsIn_wide.1 (callsIn_of_wp_marks (F := Fence.wide) (n := 0) hf hb trivial ?_)
  have hvl : vs.length = args.length := hall.1
  have r0 : Rel (look (argsG 0 args)) fn.ntmps { tmps := vs.toArray ++ Array.replicate (fn.ntmps - vs.toArray.size) undef, defers := [] } w g := by
    refine ⟨by simp; omega, rfl, hlt, fun n => ?_⟩
    cases n with
    | t i =>
      rcases look_argsG_t (args := args) (k := 0) (i := i) with h1 | ⟨x, h1⟩
      · rw [h1]; trivial
      · rw [h1]
        obtain ⟨v, e1, _, e3⟩ := look_argsG hall x h1
        have hi : i < vs.length := (List.getElem?_eq_some_iff.1 e1).1
        have : (vs.toArray ++ Array.replicate (fn.ntmps - vs.toArray.size) undef).getD i undef = v := by
          simp only [Nat.sub_zero] at e1
          simp [Array.getD_eq_getD_getElem?, Array.getElem?_append, hi]
          rw [List.getElem?_eq_getElem hi] at e1
          exact Option.some.inj e1
        show XR w g _ x
        rw [this]
        exact e3
    | row k => rw [look_argsG_other (by simp)]; trivial
    | box k => rw [look_argsG_other (by simp)]; trivial
  have env0 : Env w.heap.size none [] w g := ⟨Nat.le_refl _, fun l hl => by (cases hl), fun d hd => absurd hd (by simp), List.nodup_nil⟩
  have hend : ∀ (e : GEx) (G' : List (Nm × C)) (a' : Act) (w' : World) (g' : Gh) (ds' : List Deferred), (∀ l, e ≠ .goto l) → Kf T fn.results.toList res rows e G' → Rel (look G') fn.ntmps a' w' g' → Fr w w' g.o g'.o → Env w.heap.size none ds' w' g' →
      bodyPostM Fence.wide 0 P fn (fun e w' => ∃ v g', e = .returned v ∧ Fr w w' g.o g'.o ∧ (∀ b, g'.o b ≠ .other → b < w'.heap.size) ∧ XR w' g' v res ∧ ∀ k ty e xs, rows[k]? = some (ty, e, xs) → RowR w' g' k ty e xs) e.ex (shA ds' a') w' := fun e G' a' w' g' ds' hne hq r' f' env' => by
    obtain ⟨he, hv⟩ := hq
    have key := leaves_marks (P := P) (fn := fn) (R := fun e w' => ∃ v g', e = .returned v ∧ Fr w w' g.o g'.o ∧ (∀ b, g'.o b ≠ .other → b < w'.heap.size) ∧ XR w' g' v res ∧ ∀ k ty e xs, rows[k]? = some (ty, e, xs) → RowR w' g' k ty e xs) ds' r' f' env' fun w' g' r' f' => by
      unfold vRes at hv
      split at hv
      · rename_i x hx
        obtain ⟨hm1, hm2, hv⟩ := hv
        split at hv
        · rename_i rows' hrows
          obtain ⟨rfl, rfl⟩ := hv
          obtain ⟨v, h1, h2⟩ := resX_run hT r' hx
          refine ⟨v, h1, v, g'.ren (resM x), rfl, f'.trans (Fr.ren _ _ _), (r'.ren hm1).tags, ren_xr hm1 h2, fun k ty e xs hk => ?_⟩
          obtain ⟨hh, hmem, hrow⟩ := rowsAt_get hrows hm2 k ty e xs hk
          rw [Nat.zero_add] at hmem
          exact ren_rowr hm1 (fwd_mem hm1 hmem) (r'.row hrow)
        · exact hv.elim
      · exact hv.elim
    rcases he with rfl | rfl
    · exact key
    · exact key
  refine wpIn_seq (vCode_ok hT hO hm x h (ro := none) (ds := []) r0 (Fr.refl _ _) env0 fun e G' a' w' g' ds' hq r' f' env' _ => ?_)
  cases e with
  | normal => exact scope_wp hT hO hm hl hq r' f' env' hend
  | goto l' => exact hq.elim
  | exit id => exact hend (.exit id) G' a' w' g' ds' (by simp) hq r' f' env'
  | ret => exact hend .ret G' a' w' g' ds' (by simp) hq r' f' env'
  | panic v => exact hend (.panic v) G' a' w' g' ds' (by simp) hq r' f' env'
end Go.Proofs.YtncabdcaamkhiaaG
namespace Go.Proofs.YtncabdcaamkhiaaG
open Go Go.RowKit Go.Proofs
set_option linter.unusedSimpArgs false
set_option linter.unusedVariables false
def opsF (l : List Int) (W : List Nat) : List SV := W.flatMap fun (i : Nat) => [.raw (.int .i32 (canF (brF (l.getD i 0)).2)), .raw (.int .i64 (i : Int))]
theorem ops_len (l : List Int) (W : List Nat) : (opsF l W).length = 2 * W.length := by
  induction W with
  | nil => rfl
  | cons a W ih => simp only [opsF, List.flatMap_cons, List.length_append, List.length_cons, List.length_nil] at ih ⊢; omega
theorem prs_raw (l : List (Int × Int)) : ∀ x ∈ prs l, x.isRaw = true := by
  intro x hx
  obtain ⟨p, _, h⟩ := List.mem_flatMap.1 hx
  simp only [List.mem_cons, List.not_mem_nil, or_false] at h
  rcases h with rfl | rfl <;> rfl
theorem seq_n {K : List (Nm × C) → Prop} {Q G} (h : K G) : GEx.seq K Q .normal G := h
theorem ops_cnt (l : List Int) (W : List Nat) : cnt 2 (opsF l W) = W.length := by unfold cnt; rw [ops_len]; omega
theorem prs_cnt (O : List (Int × Int)) : cnt 2 (prs O) = O.length := by unfold cnt; rw [prs_len]; omega
theorem ops_take (l : List Int) : ∀ (W : List Nat) (m : Nat), (opsF l W).take (m * 2) = opsF l (W.take m)
  | _, 0 => by rw [Nat.zero_mul, List.take_zero, List.take_zero]; rfl
  | [], m + 1 => by rw [List.take_nil]; exact List.take_nil
  | a :: W, m + 1 => by
    have := ops_take l W m
    rw [show (m + 1) * 2 = m * 2 + 1 + 1 by omega]
    simpa only [opsF, List.flatMap_cons, List.cons_append, List.nil_append, List.take_succ_cons, List.cons.injEq, true_and] using this
theorem cnt_two (a b : SV) : cnt 2 [a, b] = 1 := by unfold cnt; simp
theorem tv_ops0 (l : List Int) : ∀ {W : List Nat} {m : Nat}, m < W.length → (List.map TV.v (opsF l W)).getD (m * 2) .dead = .v (.raw (.int .i32 (canF (brF (l.getD (W.getD m 0) 0)).2)))
  | [], _, h => absurd h (Nat.not_lt_zero _)
  | a :: W, 0, _ => rfl
  | a :: W, m + 1, h => by
    have := tv_ops0 l (W := W) (m := m) (by simpa using h)
    rw [show (m + 1) * 2 = m * 2 + 1 + 1 by omega]
    simpa only [opsF, List.flatMap_cons, List.cons_append, List.nil_append, List.map_cons, List.getD_cons_succ] using this
theorem tv_ops1 (l : List Int) : ∀ {W : List Nat} {m : Nat}, m < W.length → (List.map TV.v (opsF l W)).getD (m * 2 + 1) .dead = .v (.raw (.int .i64 ((W.getD m 0 : Nat) : Int)))
  | [], _, h => absurd h (Nat.not_lt_zero _)
  | a :: W, 0, _ => rfl
  | a :: W, m + 1, h => by
    have := tv_ops1 l (W := W) (m := m) (by simpa using h)
    rw [show (m + 1) * 2 + 1 = m * 2 + 1 + 1 + 1 by omega]
    simpa only [opsF, List.flatMap_cons, List.cons_append, List.nil_append, List.map_cons, List.getD_cons_succ] using this
theorem ops_app (l : List Int) (W : List Nat) (i : Nat) : opsF l (W ++ [i]) = opsF l W ++ [.raw (.int .i32 (canF (brF (l.getD i 0)).2)), .raw (.int .i64 (i : Int))] := by
  simp only [opsF, List.flatMap_append, List.flatMap_cons, List.flatMap_nil, List.append_nil]
theorem prs_app (O : List (Int × Int)) (a b : Int) : prs (O ++ [(a, b)]) = prs O ++ [.raw (.int .i64 a), .raw (.int .i64 b)] := by
  simp only [prs, List.flatMap_append, List.flatMap_cons, List.flatMap_nil, List.append_nil]
theorem br_rng (r : Int) : (brF r).1 = 0 ∨ (brF r).1 = 1 ∨ (brF r).1 = 2 := by
  unfold brF; split <;> (try split) <;> simp
theorem nodup_len : ∀ {l m : List Int}, l.Nodup → l.Subset m → l.length ≤ m.length
  | [], _, _, _ => Nat.zero_le _
  | a :: l, m, h, hs => by
    simp only [List.nodup_cons] at h
    have ha : a ∈ m := hs (List.mem_cons_self ..)
    have := nodup_len (l := l) (m := m.erase a) h.2 fun x hx => (List.mem_erase_of_ne (fun e => h.1 (by rw [e] at hx; exact hx))).2 (hs (List.mem_cons_of_mem _ hx))
    rw [List.length_erase_of_mem ha] at this
    have : 0 < m.length := List.length_pos_of_mem ha
    simp only [List.length_cons]; omega
theorem len_fst {i : Nat} {z : WS} (h : Wok i z) : z.2.length ≤ i := by
  have h1 := (List.nodup_append.1 h.nd).2.1
  have : (z.2.map (·.1)).Subset ((List.range i).map fun (j : Nat) => (j : Int)) := fun a ha => by
    obtain ⟨p, hp, rfl⟩ := List.mem_map.1 ha
    have := h.pr p hp
    exact List.mem_map.2 ⟨p.1.toNat, List.mem_range.2 (by omega), by omega⟩
  have h2 := nodup_len h1 this
  simpa using h2
set_option maxRecDepth 10000 in
set_option maxHeartbeats 4000000 in
theorem pairs_ok (l t : List Int) (hn : t.length = l.length) (hl : l.length ≤ 2000000) : CallOk Try.prog 10 [sl (rn l), sl (nts t)] (.tup [.one (.sr 0), .one (.v (.raw (.int .i64 0)))]) [(42, 2, prs (prsF l t))] true := by
  refine fn_okS2 (l := 0) T_ok (orc_ok _) mixed Try.func10 rfl (by rfl) (by kernel_rfl) (lv [[0, 1], [0, 1, 17], [4, 5], [0, 1, 6], [0, 1, 6, 7], [1, 6, 7, 18, 19, 20], [1, 6, 7, 18, 19, 20, 21], [1, 6, 7, 8, 9, 18, 19, 20], [1, 6, 7, 8, 9, 10, 11, 18, 19, 20], [1, 6, 7, 8, 9, 10, 11, 18, 19, 20, 38], [1, 6, 7, 8, 9, 11, 18, 19, 20, 40], [1, 6, 7, 8, 11, 18, 19, 20, 43], [1, 6, 7, 18, 19, 20], [1, 6, 7, 8, 9, 12, 18, 19, 20], [1, 6, 7, 8, 9, 12, 18, 19, 20, 55], [1, 6, 7, 8, 9, 12, 18, 19, 20], [1, 6, 7, 8, 9, 12, 18, 19, 20, 65], [1, 6, 7, 12, 18, 19, 20], [1, 6, 7, 18, 19, 20], [1, 6, 7, 18, 19, 20], [6], [4, 5]]) 83 rfl (by simp) rfl (fun _ => ⟨by simp [X.all, PX.all, TV.rawR, SV.isRaw], fun r hr => by simp only [List.mem_singleton] at hr; subst hr; exact prs_raw _⟩) ?_
  simp only [argsG, Nat.zero_add, Nat.reduceAdd]
  repeat' first
    | ((first
        | ((with_reducible refine vR_cons (by decide) ?_); generalize hk : KtR _ _ _ _ _ _ _ _ _ _ = k)
        | ((first
        | with_reducible refine vOps_cons' ?_) <;> generalize hk : Kt _ _ _ _ _ _ _ _ _ = k)) <;> (simp only [Try.f10, lv, E1, E2, E5, ET, T, orc_mv, noO_mv, mvB, orc_bx, noO_bx, bxB, orc_sx, noO_sx, sxB, fwd, fwds, inv, mOk, Int.toNat_natCast, Nat.div_one, Nat.mul_one, Int.reduceToNat, SB, List.not_mem_nil, ↓reduceIte, ne_eq, reduceCtorEq, Nat.reduceLT, Nat.reduceEqDiff, Nat.reduceAdd, Nat.reduceMul, Nat.reduceLeDiff, Nat.reduceDiv, Nat.reduceMod, Nat.reduceSub, Nat.reduceBEq, List.length_map, rn_len, nts_len, cut_nts, List.length_take, List.length_drop, prs_len, ops_len, ops_cnt, prs_cnt, ops_take, cnt_two]; (try simp (disch := omega) only [wrap_in, Int.toNat_natCast, tv_rn, tv_nts, tv_ops0, tv_ops1]); subst hk))
    | with_reducible first | refine Kt_p ?_ | refine Kt_i (by kernel_rfl) ?_ | refine Kr_f (by kernel_rfl) ?_
    | (with_reducible refine Kr_t ?_; simp only [List.length_append, List.length_cons, List.length_nil, Nat.reduceAdd, Nat.reduceSub, List.drop_succ_cons, List.drop_zero])
    | with_reducible first | refine vR_nil ?_ | refine KtR_i (by kernel_rfl) ?_ | refine KrR_i (by kernel_rfl) ?_ | refine vR_skip (by decide) ?_
    | ((with_reducible refine vB_i ?_ ?_) <;> intro _ <;> (first | (exfalso; omega) | (exact absurd trivial ‹¬True›) | (try dsimp only [])))
    | ((with_reducible refine vOps_nil' ?_); refine Kr_i (by kernel_rfl) ?_; generalize hk : plain _ _ = G; simp only [lv, E3, E2, E5, rawX, deadX, SB, List.not_mem_nil, ↓reduceIte, ne_eq, reduceCtorEq, Nat.reduceLT, Nat.reduceEqDiff, Nat.reduceAdd, Nat.reduceMul, Nat.reduceLeDiff, Nat.reduceDiv, Nat.reduceMod, Nat.reduceSub, Nat.reduceBEq, List.length_map, rn_len, nts_len, cut_nts, List.length_take, List.length_drop, prs_len, ops_len, ops_cnt, prs_cnt, ops_take, cnt_two] at hk; subst hk)
    | with_reducible refine vSeq_i ?_
    | with_reducible first | refine vRegion_i (by kernel_rfl) ?_ | refine Kv_i ?_
    | ((with_reducible apply vStrK_i); (focus (rfl; done)))
    | ((with_reducible refine imp_i ?_); intro _)
    | with_reducible first | refine Ks_n ?_ | refine Ks_r ?_ | refine Ks_e ?_ | refine Kl_e ?_ | refine Kx_n ?_ | refine Kl_r ?_ | refine vRet_i ?_ | refine vSkip_i ?_ | refine vExit_i ?_ | refine vBlock_i ?_ | refine Ks_p ?_ | refine Kl_p ?_ | refine blk_p ?_ | exact Kb_p | refine vGoto_i ?_ | refine vLabel_i ?_ | refine Ks_g ?_ | refine Kl_g ?_ | refine blk_g ?_ | refine jmp_g ?_ | refine jmp_n ?_ | refine jmp_r ?_ | refine nog_n ?_ | refine nog_r ?_ | refine blk_n ?_ | refine blk_r ?_ | refine blk_e ?_ | refine blk_o (by decide) ?_ | refine cp_t ?_ | refine cp_f ?_
    | ((with_reducible apply vCond_x); (focus (simp only [lv, E1, E2, E5, ET, T, orc_mv, noO_mv, mvB, orc_bx, noO_bx, bxB, orc_sx, noO_sx, sxB, fwd, fwds, inv, mOk, Int.toNat_natCast, Nat.div_one, Nat.mul_one, Int.reduceToNat, SB, List.not_mem_nil, ↓reduceIte, ne_eq, reduceCtorEq, Nat.reduceLT, Nat.reduceEqDiff, Nat.reduceAdd, Nat.reduceMul, Nat.reduceLeDiff, Nat.reduceDiv, Nat.reduceMod, Nat.reduceSub, Nat.reduceBEq, List.length_map, rn_len, nts_len, cut_nts, List.length_take, List.length_drop, prs_len, ops_len, ops_cnt, prs_cnt, ops_take, cnt_two]; with_reducible first | exact Eq.refl (bo true) | exact Eq.refl (bo false))))
    | ((with_reducible refine And.intro ?_ ?_); (focus (try omega)))
  refine seq_n ?_
  repeat' first
    | ((first
        | ((with_reducible refine vR_cons (by decide) ?_); generalize hk : KtR _ _ _ _ _ _ _ _ _ _ = k)
        | ((first
        | with_reducible refine vOps_cons' ?_) <;> generalize hk : Kt _ _ _ _ _ _ _ _ _ = k)) <;> (simp only [Try.f10, lv, E1, E2, E5, ET, T, orc_mv, noO_mv, mvB, orc_bx, noO_bx, bxB, orc_sx, noO_sx, sxB, fwd, fwds, inv, mOk, Int.toNat_natCast, Nat.div_one, Nat.mul_one, Int.reduceToNat, SB, List.not_mem_nil, ↓reduceIte, ne_eq, reduceCtorEq, Nat.reduceLT, Nat.reduceEqDiff, Nat.reduceAdd, Nat.reduceMul, Nat.reduceLeDiff, Nat.reduceDiv, Nat.reduceMod, Nat.reduceSub, Nat.reduceBEq, List.length_map, rn_len, nts_len, cut_nts, List.length_take, List.length_drop, prs_len, ops_len, ops_cnt, prs_cnt, ops_take, cnt_two]; (try simp (disch := omega) only [wrap_in, Int.toNat_natCast, tv_rn, tv_nts, tv_ops0, tv_ops1]); subst hk))
    | with_reducible first | refine Kt_p ?_ | refine Kt_i (by kernel_rfl) ?_ | refine Kr_f (by kernel_rfl) ?_
    | (with_reducible refine Kr_t ?_; simp only [List.length_append, List.length_cons, List.length_nil, Nat.reduceAdd, Nat.reduceSub, List.drop_succ_cons, List.drop_zero])
    | with_reducible first | refine vR_nil ?_ | refine KtR_i (by kernel_rfl) ?_ | refine KrR_i (by kernel_rfl) ?_ | refine vR_skip (by decide) ?_
    | ((with_reducible refine vB_i ?_ ?_) <;> intro _ <;> (first | (exfalso; omega) | (exact absurd trivial ‹¬True›) | (try dsimp only [])))
    | ((with_reducible refine vOps_nil' ?_); refine Kr_i (by kernel_rfl) ?_; generalize hk : plain _ _ = G; simp only [lv, E3, E2, E5, rawX, deadX, SB, List.not_mem_nil, ↓reduceIte, ne_eq, reduceCtorEq, Nat.reduceLT, Nat.reduceEqDiff, Nat.reduceAdd, Nat.reduceMul, Nat.reduceLeDiff, Nat.reduceDiv, Nat.reduceMod, Nat.reduceSub, Nat.reduceBEq, List.length_map, rn_len, nts_len, cut_nts, List.length_take, List.length_drop, prs_len, ops_len, ops_cnt, prs_cnt, ops_take, cnt_two] at hk; subst hk)
    | with_reducible refine vSeq_i ?_
    | with_reducible first | refine vRegion_i (by kernel_rfl) ?_ | refine Kv_i ?_
    | ((with_reducible apply vStrK_i); (focus (rfl; done)))
    | ((with_reducible refine imp_i ?_); intro _)
    | with_reducible first | refine Ks_n ?_ | refine Ks_r ?_ | refine Ks_e ?_ | refine Kl_e ?_ | refine Kx_n ?_ | refine Kl_r ?_ | refine vRet_i ?_ | refine vSkip_i ?_ | refine vExit_i ?_ | refine vBlock_i ?_ | refine Ks_p ?_ | refine Kl_p ?_ | refine blk_p ?_ | exact Kb_p | refine vGoto_i ?_ | refine vLabel_i ?_ | refine Ks_g ?_ | refine Kl_g ?_ | refine blk_g ?_ | refine jmp_g ?_ | refine jmp_n ?_ | refine jmp_r ?_ | refine nog_n ?_ | refine nog_r ?_ | refine blk_n ?_ | refine blk_r ?_ | refine blk_e ?_ | refine blk_o (by decide) ?_ | refine cp_t ?_ | refine cp_f ?_
    | ((with_reducible apply vCond_x); (focus (simp only [lv, E1, E2, E5, ET, T, orc_mv, noO_mv, mvB, orc_bx, noO_bx, bxB, orc_sx, noO_sx, sxB, fwd, fwds, inv, mOk, Int.toNat_natCast, Nat.div_one, Nat.mul_one, Int.reduceToNat, SB, List.not_mem_nil, ↓reduceIte, ne_eq, reduceCtorEq, Nat.reduceLT, Nat.reduceEqDiff, Nat.reduceAdd, Nat.reduceMul, Nat.reduceLeDiff, Nat.reduceDiv, Nat.reduceMod, Nat.reduceSub, Nat.reduceBEq, List.length_map, rn_len, nts_len, cut_nts, List.length_take, List.length_drop, prs_len, ops_len, ops_cnt, prs_cnt, ops_take, cnt_two]; with_reducible first | exact Eq.refl (bo true) | exact Eq.refl (bo false))))
    | ((with_reducible refine And.intro ?_ ?_); (focus (try omega)))
  all_goals try (exfalso; omega)
  refine vLoop_s (fun i : Nat => [(.t 1, .t (sl (nts t))), (.t 6, .t (.p (.one (.sr 0)))), (.t 7, .t (.p (.one (.sr 1)))), (.t 18, .t (sl (rn l))), (.t 19, .t (i64 l.length)), (.t 20, .t (i64 i)), (.row 0, .row 42 2 (prs (stW l t i).1.2)), (.row 1, .row 52 2 (opsF l (stW l t i).1.1))]) (fun i => i ≤ l.length ∧ (stW l t i).2 = false) (fun i => l.length - i) 0 ⟨by omega, rfl⟩ rfl ?_
  rintro i ⟨hi, hst⟩
  have hok := stW_ok l t i
  have hbr := br_rng (l.getD i 0)
  have hnx : stW l t (i + 1) = stW l t (i + 1) := rfl
  conv at hnx => rhs; rw [stW, if_neg (by rw [hst]; decide)]
  have hstp : (stW l t (i + 1)).2 = true → i < l.length → prsF l t = rising l.length (stW l t (i + 1)).1.2 := fun h1 h2 => by unfold prsF; rw [stW_stop l t h1 l.length (by omega)]
  have hend : ¬ i < l.length → prsF l t = rising l.length (stW l t i).1.2 := fun h => by unfold prsF; rw [show l.length = i by omega]
  have hsort := sort_calls (stW l t i).1.2 (rising l.length (stW l t i).1.2) (fun p hp => by have := hok.pr p hp; omega) (List.nodup_append.1 hok.nd).2.1 (rising_perm (List.nodup_append.1 hok.nd).2.1 fun p hp => by have := hok.pr p hp; omega) (rising_sorted _ _) (by have := len_fst hok; omega)
  obtain ⟨W, hW⟩ : ∃ W, W = (stW l t i).1.1 := ⟨_, rfl⟩
  obtain ⟨O, hO⟩ : ∃ O, O = (stW l t i).1.2 := ⟨_, rfl⟩
  have hWl : W.length ≤ 63 := hW ▸ hok.len
  have hOl : O.length ≤ i := hO ▸ len_fst hok
  rw [← hO] at hsort hend
  rw [← hW, ← hO] at hnx
  rw [← hW, ← hO]
  repeat' first
    | ((first
        | ((with_reducible refine vR_cons (by decide) ?_); generalize hk : KtR _ _ _ _ _ _ _ _ _ _ = k)
        | ((first
        | with_reducible refine vOps_cons' ?_
        | ((with_reducible apply orc_i); (focus (exact bracket_ok _; done)))
        | ((with_reducible apply orc_i); (focus (exact canon_ok _; done)))) <;> generalize hk : Kt _ _ _ _ _ _ _ _ _ = k)) <;> (simp only [Try.f10, lv, E1, E2, E5, ET, T, orc_mv, noO_mv, mvB, orc_bx, noO_bx, bxB, orc_sx, noO_sx, sxB, fwd, fwds, inv, mOk, Int.toNat_natCast, Nat.div_one, Nat.mul_one, Int.reduceToNat, SB, List.not_mem_nil, ↓reduceIte, ne_eq, reduceCtorEq, Nat.reduceLT, Nat.reduceEqDiff, Nat.reduceAdd, Nat.reduceMul, Nat.reduceLeDiff, Nat.reduceDiv, Nat.reduceMod, Nat.reduceSub, Nat.reduceBEq, List.length_map, rn_len, nts_len, cut_nts, List.length_take, List.length_drop, prs_len, ops_len, ops_cnt, prs_cnt, ops_take, cnt_two]; (try simp (disch := omega) only [wrap_in, Int.toNat_natCast, tv_rn, tv_nts, tv_ops0, tv_ops1]); subst hk))
    | with_reducible first | refine Kt_p ?_ | refine Kt_i (by kernel_rfl) ?_ | refine Kr_f (by kernel_rfl) ?_
    | (with_reducible refine Kr_t ?_; simp only [List.length_append, List.length_cons, List.length_nil, Nat.reduceAdd, Nat.reduceSub, List.drop_succ_cons, List.drop_zero])
    | with_reducible first | refine vR_nil ?_ | refine KtR_i (by kernel_rfl) ?_ | refine KrR_i (by kernel_rfl) ?_ | refine vR_skip (by decide) ?_
    | ((with_reducible refine vB_i ?_ ?_) <;> intro _ <;> (first | (exfalso; omega) | (exact absurd trivial ‹¬True›) | (try dsimp only [])))
    | ((with_reducible refine vOps_nil' ?_); refine Kr_i (by kernel_rfl) ?_; generalize hk : plain _ _ = G; simp only [lv, E3, E2, E5, rawX, deadX, SB, List.not_mem_nil, ↓reduceIte, ne_eq, reduceCtorEq, Nat.reduceLT, Nat.reduceEqDiff, Nat.reduceAdd, Nat.reduceMul, Nat.reduceLeDiff, Nat.reduceDiv, Nat.reduceMod, Nat.reduceSub, Nat.reduceBEq, List.length_map, rn_len, nts_len, cut_nts, List.length_take, List.length_drop, prs_len, ops_len, ops_cnt, prs_cnt, ops_take, cnt_two] at hk; subst hk)
    | with_reducible refine vSeq_i ?_
    | ((with_reducible apply orc_s); (focus (exact hsort; done)))
    | with_reducible first | refine vRegion_i (by kernel_rfl) ?_ | refine Kv_i ?_
    | ((with_reducible apply vStrK_i); (focus (rfl; done)))
    | ((with_reducible refine imp_i ?_); intro _)
    | with_reducible first | refine Ks_n ?_ | refine Ks_r ?_ | refine Ks_e ?_ | refine Kl_e ?_ | refine Kx_n ?_ | refine Kl_r ?_ | refine vRet_i ?_ | refine vSkip_i ?_ | refine vExit_i ?_ | refine vBlock_i ?_ | refine Ks_p ?_ | refine Kl_p ?_ | refine blk_p ?_ | exact Kb_p | refine vGoto_i ?_ | refine vLabel_i ?_ | refine Ks_g ?_ | refine Kl_g ?_ | refine blk_g ?_ | refine jmp_g ?_ | refine jmp_n ?_ | refine jmp_r ?_ | refine nog_n ?_ | refine nog_r ?_ | refine blk_n ?_ | refine blk_r ?_ | refine blk_e ?_ | refine blk_o (by decide) ?_ | refine cp_t ?_ | refine cp_f ?_
    | ((with_reducible apply vCond_x); (focus (simp only [lv, E1, E2, E5, ET, T, orc_mv, noO_mv, mvB, orc_bx, noO_bx, bxB, orc_sx, noO_sx, sxB, fwd, fwds, inv, mOk, Int.toNat_natCast, Nat.div_one, Nat.mul_one, Int.reduceToNat, SB, List.not_mem_nil, ↓reduceIte, ne_eq, reduceCtorEq, Nat.reduceLT, Nat.reduceEqDiff, Nat.reduceAdd, Nat.reduceMul, Nat.reduceLeDiff, Nat.reduceDiv, Nat.reduceMod, Nat.reduceSub, Nat.reduceBEq, List.length_map, rn_len, nts_len, cut_nts, List.length_take, List.length_drop, prs_len, ops_len, ops_cnt, prs_cnt, ops_take, cnt_two]; with_reducible first | exact Eq.refl (bo true) | exact Eq.refl (bo false))))
    | ((with_reducible refine And.intro ?_ ?_); (focus (try omega)))
  all_goals try (exfalso; omega)
  · rename_i _ q
    have hk0 : kindF l t i = 0 := by unfold kindF; split; rfl; exact q
    rw [hk0] at hnx
    simp only [show ¬ (0 : Int) = 1 by decide, show ¬ (0 : Int) = 2 by decide, if_false] at hnx
    exact Kl_n ⟨i + 1, ⟨by omega, by rw [hnx]; exact hst⟩, by omega, by simp only [Int.natCast_add, Int.natCast_one, hnx, ← hW, ← hO]⟩
  · rename_i q1 _ q2 q3 q
    have hk1 : kindF l t i = 1 := by unfold kindF; rw [if_neg (by rw [q2]; decide)]; exact q3
    rw [hk1, if_pos rfl, if_pos (by omega)] at hnx
    refine Kf_r ?_
    rw [hstp (by rw [hnx]) (by omega), hnx, ← hO]
    simp only [Try.f10, E4, E3, E2, E5, rawX, deadX, ET, T, SB, List.not_mem_nil, ↓reduceIte, ne_eq, reduceCtorEq, Nat.reduceLT, Nat.reduceEqDiff, Nat.reduceAdd, Nat.reduceMul, Nat.reduceLeDiff, Nat.reduceDiv, Nat.reduceMod, Nat.reduceSub, Nat.reduceBEq, List.length_map, rn_len, nts_len, cut_nts, List.length_take, List.length_drop, prs_len, ops_len, ops_cnt, prs_cnt, ops_take, cnt_two]
  · rename_i q1 _ q2 q3 q
    have hk1 : kindF l t i = 1 := by unfold kindF; rw [if_neg (by rw [q2]; decide)]; exact q3
    rw [hk1, if_pos rfl, if_neg (by omega)] at hnx
    exact Kl_n ⟨i + 1, ⟨by omega, by rw [hnx]⟩, by omega, by simp only [Int.natCast_add, Int.natCast_one, hnx, ops_app]⟩
  · rename_i q1 q0 q2 q3
    have hk2 : kindF l t i = 2 := by unfold kindF; rw [if_neg (by rw [q2]; decide)]; omega
    rw [hk2, if_neg (by decide), if_pos rfl] at hnx
    refine vLoop_s (fun z : Nat => [(.t 1, .t (sl (nts t))), (.t 6, .t (.p (.one (.sr 0)))), (.t 7, .t (.p (.one (.sr 1)))), (.t 8, .t (i64 i)), (.t 9, .t (i32 (l.getD i 0))), (.t 12, .t (i64 ((z : Int) - 1))), (.t 18, .t (sl (rn l))), (.t 19, .t (i64 l.length)), (.t 20, .t (i64 i)), (.row 0, .row 42 2 (prs O)), (.row 1, .row 52 2 (opsF l W))]) (fun z => z ≤ W.length ∧ fnd l W i W.length = fnd l W i z) (fun z => z) W.length ⟨by omega, rfl⟩ rfl ?_
    rintro z ⟨hz, heq⟩
    cases z with
    | zero =>
      repeat' first
        | ((first
            | ((with_reducible refine vR_cons (by decide) ?_); generalize hk : KtR _ _ _ _ _ _ _ _ _ _ = k)
            | ((first
            | with_reducible refine vOps_cons' ?_) <;> generalize hk : Kt _ _ _ _ _ _ _ _ _ = k)) <;> (simp only [Try.f10, lv, E1, E2, E5, ET, T, orc_mv, noO_mv, mvB, orc_bx, noO_bx, bxB, orc_sx, noO_sx, sxB, fwd, fwds, inv, mOk, Int.toNat_natCast, Nat.div_one, Nat.mul_one, Int.reduceToNat, SB, List.not_mem_nil, ↓reduceIte, ne_eq, reduceCtorEq, Nat.reduceLT, Nat.reduceEqDiff, Nat.reduceAdd, Nat.reduceMul, Nat.reduceLeDiff, Nat.reduceDiv, Nat.reduceMod, Nat.reduceSub, Nat.reduceBEq, List.length_map, rn_len, nts_len, cut_nts, List.length_take, List.length_drop, prs_len, ops_len, ops_cnt, prs_cnt, ops_take, cnt_two]; (try simp (disch := omega) only [wrap_in, Int.toNat_natCast, tv_rn, tv_nts, tv_ops0, tv_ops1]); subst hk))
        | with_reducible first | refine Kt_p ?_ | refine Kt_i (by kernel_rfl) ?_ | refine Kr_f (by kernel_rfl) ?_
        | (with_reducible refine Kr_t ?_; simp only [List.length_append, List.length_cons, List.length_nil, Nat.reduceAdd, Nat.reduceSub, List.drop_succ_cons, List.drop_zero])
        | with_reducible first | refine vR_nil ?_ | refine KtR_i (by kernel_rfl) ?_ | refine KrR_i (by kernel_rfl) ?_ | refine vR_skip (by decide) ?_
        | ((with_reducible refine vB_i ?_ ?_) <;> intro _ <;> (first | (exfalso; omega) | (exact absurd trivial ‹¬True›) | (try dsimp only [])))
        | ((with_reducible refine vOps_nil' ?_); refine Kr_i (by kernel_rfl) ?_; generalize hk : plain _ _ = G; simp only [lv, E3, E2, E5, rawX, deadX, SB, List.not_mem_nil, ↓reduceIte, ne_eq, reduceCtorEq, Nat.reduceLT, Nat.reduceEqDiff, Nat.reduceAdd, Nat.reduceMul, Nat.reduceLeDiff, Nat.reduceDiv, Nat.reduceMod, Nat.reduceSub, Nat.reduceBEq, List.length_map, rn_len, nts_len, cut_nts, List.length_take, List.length_drop, prs_len, ops_len, ops_cnt, prs_cnt, ops_take, cnt_two] at hk; subst hk)
        | with_reducible refine vSeq_i ?_
        | with_reducible first | refine vRegion_i (by kernel_rfl) ?_ | refine Kv_i ?_
        | ((with_reducible apply vStrK_i); (focus (rfl; done)))
        | ((with_reducible refine imp_i ?_); intro _)
        | with_reducible first | refine Ks_n ?_ | refine Ks_r ?_ | refine Ks_e ?_ | refine Kl_e ?_ | refine Kx_n ?_ | refine Kl_r ?_ | refine vRet_i ?_ | refine vSkip_i ?_ | refine vExit_i ?_ | refine vBlock_i ?_ | refine Ks_p ?_ | refine Kl_p ?_ | refine blk_p ?_ | exact Kb_p | refine vGoto_i ?_ | refine vLabel_i ?_ | refine Ks_g ?_ | refine Kl_g ?_ | refine blk_g ?_ | refine jmp_g ?_ | refine jmp_n ?_ | refine jmp_r ?_ | refine nog_n ?_ | refine nog_r ?_ | refine blk_n ?_ | refine blk_r ?_ | refine blk_e ?_ | refine blk_o (by decide) ?_ | refine cp_t ?_ | refine cp_f ?_
        | ((with_reducible apply vCond_x); (focus (simp only [lv, E1, E2, E5, ET, T, orc_mv, noO_mv, mvB, orc_bx, noO_bx, bxB, orc_sx, noO_sx, sxB, fwd, fwds, inv, mOk, Int.toNat_natCast, Nat.div_one, Nat.mul_one, Int.reduceToNat, SB, List.not_mem_nil, ↓reduceIte, ne_eq, reduceCtorEq, Nat.reduceLT, Nat.reduceEqDiff, Nat.reduceAdd, Nat.reduceMul, Nat.reduceLeDiff, Nat.reduceDiv, Nat.reduceMod, Nat.reduceSub, Nat.reduceBEq, List.length_map, rn_len, nts_len, cut_nts, List.length_take, List.length_drop, prs_len, ops_len, ops_cnt, prs_cnt, ops_take, cnt_two]; with_reducible first | exact Eq.refl (bo true) | exact Eq.refl (bo false))))
        | ((with_reducible refine And.intro ?_ ?_); (focus (try omega)))
      all_goals try (exfalso; omega)
      rw [heq] at hnx
      simp only [fnd] at hnx
      exact Kl_n ⟨i + 1, ⟨by omega, by rw [hnx]; exact hst⟩, by omega, by simp only [Int.natCast_add, Int.natCast_one, hnx, ← hW, ← hO]⟩
    | succ m =>
      rw [show (((m + 1 : Nat) : Int) - 1) = (m : Int) by omega]
      repeat' first
        | ((first
            | ((with_reducible refine vR_cons (by decide) ?_); generalize hk : KtR _ _ _ _ _ _ _ _ _ _ = k)
            | ((first
            | with_reducible refine vOps_cons' ?_
            | ((with_reducible apply orc_i); (focus (exact canon_ok _; done)))) <;> generalize hk : Kt _ _ _ _ _ _ _ _ _ = k)) <;> (simp only [Try.f10, lv, E1, E2, E5, ET, T, orc_mv, noO_mv, mvB, orc_bx, noO_bx, bxB, orc_sx, noO_sx, sxB, fwd, fwds, inv, mOk, Int.toNat_natCast, Nat.div_one, Nat.mul_one, Int.reduceToNat, SB, List.not_mem_nil, ↓reduceIte, ne_eq, reduceCtorEq, Nat.reduceLT, Nat.reduceEqDiff, Nat.reduceAdd, Nat.reduceMul, Nat.reduceLeDiff, Nat.reduceDiv, Nat.reduceMod, Nat.reduceSub, Nat.reduceBEq, List.length_map, rn_len, nts_len, cut_nts, List.length_take, List.length_drop, prs_len, ops_len, ops_cnt, prs_cnt, ops_take, cnt_two]; (try simp (disch := omega) only [wrap_in, Int.toNat_natCast, tv_rn, tv_nts, tv_ops0, tv_ops1]); subst hk))
        | with_reducible first | refine Kt_p ?_ | refine Kt_i (by kernel_rfl) ?_ | refine Kr_f (by kernel_rfl) ?_
        | (with_reducible refine Kr_t ?_; simp only [List.length_append, List.length_cons, List.length_nil, Nat.reduceAdd, Nat.reduceSub, List.drop_succ_cons, List.drop_zero])
        | with_reducible first | refine vR_nil ?_ | refine KtR_i (by kernel_rfl) ?_ | refine KrR_i (by kernel_rfl) ?_ | refine vR_skip (by decide) ?_
        | ((with_reducible refine vB_i ?_ ?_) <;> intro _ <;> (first | (exfalso; omega) | (exact absurd trivial ‹¬True›) | (try dsimp only [])))
        | ((with_reducible refine vOps_nil' ?_); refine Kr_i (by kernel_rfl) ?_; generalize hk : plain _ _ = G; simp only [lv, E3, E2, E5, rawX, deadX, SB, List.not_mem_nil, ↓reduceIte, ne_eq, reduceCtorEq, Nat.reduceLT, Nat.reduceEqDiff, Nat.reduceAdd, Nat.reduceMul, Nat.reduceLeDiff, Nat.reduceDiv, Nat.reduceMod, Nat.reduceSub, Nat.reduceBEq, List.length_map, rn_len, nts_len, cut_nts, List.length_take, List.length_drop, prs_len, ops_len, ops_cnt, prs_cnt, ops_take, cnt_two] at hk; subst hk)
        | with_reducible refine vSeq_i ?_
        | with_reducible first | refine vRegion_i (by kernel_rfl) ?_ | refine Kv_i ?_
        | ((with_reducible apply vStrK_i); (focus (rfl; done)))
        | ((with_reducible refine imp_i ?_); intro _)
        | with_reducible first | refine Ks_n ?_ | refine Ks_r ?_ | refine Ks_e ?_ | refine Kl_e ?_ | refine Kx_n ?_ | refine Kl_r ?_ | refine vRet_i ?_ | refine vSkip_i ?_ | refine vExit_i ?_ | refine vBlock_i ?_ | refine Ks_p ?_ | refine Kl_p ?_ | refine blk_p ?_ | exact Kb_p | refine vGoto_i ?_ | refine vLabel_i ?_ | refine Ks_g ?_ | refine Kl_g ?_ | refine blk_g ?_ | refine jmp_g ?_ | refine jmp_n ?_ | refine jmp_r ?_ | refine nog_n ?_ | refine nog_r ?_ | refine blk_n ?_ | refine blk_r ?_ | refine blk_e ?_ | refine blk_o (by decide) ?_ | refine cp_t ?_ | refine cp_f ?_
        | ((with_reducible apply vCond_x); (focus (simp only [lv, E1, E2, E5, ET, T, orc_mv, noO_mv, mvB, orc_bx, noO_bx, bxB, orc_sx, noO_sx, sxB, fwd, fwds, inv, mOk, Int.toNat_natCast, Nat.div_one, Nat.mul_one, Int.reduceToNat, SB, List.not_mem_nil, ↓reduceIte, ne_eq, reduceCtorEq, Nat.reduceLT, Nat.reduceEqDiff, Nat.reduceAdd, Nat.reduceMul, Nat.reduceLeDiff, Nat.reduceDiv, Nat.reduceMod, Nat.reduceSub, Nat.reduceBEq, List.length_map, rn_len, nts_len, cut_nts, List.length_take, List.length_drop, prs_len, ops_len, ops_cnt, prs_cnt, ops_take, cnt_two]; with_reducible first | exact Eq.refl (bo true) | exact Eq.refl (bo false))))
        | ((with_reducible refine And.intro ?_ ?_); (focus (try omega)))
      all_goals try (exfalso; omega)
      · rename_i q4 q5
        rw [heq] at hnx
        simp only [fnd, endsF, q5, decide_true, if_true] at hnx
        exact Kl_n ⟨i + 1, ⟨by omega, by rw [hnx]⟩, by omega, by simp only [Int.natCast_add, Int.natCast_one, hnx, prs_app]⟩
      · rename_i q4 q5
        exact Kl_n ⟨m, ⟨by omega, by rw [heq, fnd, endsF, decide_eq_false q5]; rfl⟩, by omega, rfl⟩
  · rename_i q1 q0 q2
    have hk0 : kindF l t i = 0 := by unfold kindF; rw [if_pos q2]
    rw [hk0] at hnx
    simp only [show ¬ (0 : Int) = 1 by decide, show ¬ (0 : Int) = 2 by decide, if_false] at hnx
    exact Kl_n ⟨i + 1, ⟨by omega, by rw [hnx]; exact hst⟩, by omega, by simp only [Int.natCast_add, Int.natCast_one, hnx, ← hW, ← hO]⟩
  · rename_i q
    refine Kf_r ?_
    rw [hend (by omega)]
    simp only [Try.f10, E4, E3, E2, E5, rawX, deadX, ET, T, SB, List.not_mem_nil, ↓reduceIte, ne_eq, reduceCtorEq, Nat.reduceLT, Nat.reduceEqDiff, Nat.reduceAdd, Nat.reduceMul, Nat.reduceLeDiff, Nat.reduceDiv, Nat.reduceMod, Nat.reduceSub, Nat.reduceBEq, List.length_map, rn_len, nts_len, cut_nts, List.length_take, List.length_drop, prs_len, ops_len, ops_cnt, prs_cnt, ops_take, cnt_two]
end Go.Proofs.YtncabdcaamkhiaaG
