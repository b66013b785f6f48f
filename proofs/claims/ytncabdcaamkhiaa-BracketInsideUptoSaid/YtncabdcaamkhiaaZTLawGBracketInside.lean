/- YtncabdcaamkhiaaZTLawGBracketInside: a part of the proof, joined of its texts. -/
import Derived.Test.YtncabdcaamkhiaaZ17
/- L10c: layer 10's laws of whole sequences at what came in. -/
namespace Go.Proofs.YtncabdcaamkhiaaG
open Go Go.RowKit Go.Proofs Go.Proofs.Ytncabdcaamkhiaa
theorem typ_i64 {n : Nat} {x : SV} (h : Typ T n 3 [x]) : ∃ m : Int, x = .raw (.int .i64 m) := by
  obtain ⟨m, e, _⟩ := h.int' (by rfl)
  simp only [List.cons.injEq, and_true] at e
  exact ⟨m, e⟩
end Go.Proofs.YtncabdcaamkhiaaG
/- N16: what the brackets' directions change (pure). -/
namespace Go.Proofs.YtncabdcaamkhiaaG
open Go Go.RowKit Go.Proofs
set_option linter.unusedSimpArgs false
set_option linter.unusedVariables false
theorem getD_set {l : List Int} {i q : Nat} {x : Int} : (l.set i x).getD q 0 = if i = q ∧ i < l.length then x else l.getD q 0 := by
  rw [List.getD_eq_getElem?_getD, List.getD_eq_getElem?_getD, List.getElem?_set]
  by_cases h : i = q
  · subst h
    by_cases h2 : i < l.length
    · rw [if_pos rfl, if_pos h2, if_pos ⟨rfl, h2⟩]; rfl
    · rw [if_pos rfl, if_neg h2, if_neg (fun q => h2 q.2), List.getElem?_eq_none (by omega)]
  · rw [if_neg h, if_neg (fun q => h q.1)]
theorem spr_hit (u : List Int) (d : Int) (q : Nat) : ∀ f j now, j + f = now.length → j ≤ q → q < now.length → (∀ r, j ≤ r → r ≤ q → u.getD r 0 = 9) → (spr u d f j now).getD q 0 = d
  | 0, j, now, h, h1, h2, _ => by omega
  | f + 1, j, now, h, h1, h2, h3 => by
    unfold spr
    rw [if_pos (h3 j (Nat.le_refl _) h1)]
    by_cases e : j = q
    · subst e
      have : ∀ f i now, j < i → j < now.length → (spr u d f i now).getD j 0 = now.getD j 0 := by
        intro f
        induction f with
        | zero => intro i now _ _; rfl
        | succ f ih =>
          intro i now hi hn
          unfold spr; split
          · rw [ih (i + 1) (now.set i d) (by omega) (by rw [List.length_set]; exact hn), getD_set, if_neg (by omega)]
          · rfl
      rw [this f (j + 1) (now.set j d) (by omega) (by rw [List.length_set]; exact h2), getD_set, if_pos ⟨rfl, by omega⟩]
    · exact spr_hit u d q f (j + 1) (now.set j d) (by rw [List.length_set]; omega) (by omega) (by rw [List.length_set]; exact h2) (fun r hr hr' => h3 r (by omega) hr')
theorem spr_not (u : List Int) (d : Int) (q : Nat) : ∀ f j now, ¬ (j ≤ q ∧ ∀ r, j ≤ r → r ≤ q → u.getD r 0 = 9) → (spr u d f j now).getD q 0 = now.getD q 0
  | 0, j, now, _ => rfl
  | f + 1, j, now, h => by
    unfold spr; split
    · rename_i h9
      have hne : j ≠ q := by
        rintro rfl
        exact h ⟨Nat.le_refl _, fun r hr hr' => by rw [show r = j by omega]; exact h9⟩
      rw [spr_not u d q f (j + 1) (now.set j d) (fun ⟨h1, h2⟩ => h ⟨by omega, fun r hr hr' => by
        rcases Nat.lt_or_eq_of_le hr with q' | q'
        · exact h2 r q' hr'
        · exact q' ▸ h9⟩), getD_set, if_neg (by omega)]
    · rfl
/-- A place that a bracket's direction reaches. -/
def hitP (u : List Int) (i q : Nat) : Prop := q = i ∨ (i < q ∧ ∀ r, i < r → r ≤ q → u.getD r 0 = 9)
theorem put_hit {u : List Int} {d : Int} {i q : Nat} {now : List Int} (hi : i < now.length) (hq : q < now.length) (h : hitP u i q) : (putF u d i now).getD q 0 = d := by
  unfold putF
  rcases h with rfl | ⟨h1, h2⟩
  · rw [spr_not _ _ _ _ _ _ (fun ⟨h, _⟩ => by omega), getD_set, if_pos ⟨rfl, hi⟩]
  · exact spr_hit u d q _ _ _ (by rw [List.length_set]; omega) h1 (by rw [List.length_set]; exact hq) (fun r hr hr' => h2 r hr hr')
theorem put_not {u : List Int} {d : Int} {i q : Nat} {now : List Int} (h : ¬ hitP u i q) : (putF u d i now).getD q 0 = now.getD q 0 := by
  unfold putF
  rw [spr_not _ _ _ _ _ _ (fun ⟨h1, h2⟩ => h (.inr ⟨h1, fun r hr hr' => h2 r hr hr'⟩)), getD_set, if_neg (fun q => h (.inl q.1.symm))]
theorem not_hit {u : List Int} {i q : Nat} (h1 : q ≠ i) (h2 : u.getD q 0 ≠ 9) : ¬ hitP u i q := fun h => by
  rcases h with h | ⟨h, h'⟩
  · exact h1 h
  · exact h2 (h' q h (Nat.le_refl _))
end Go.Proofs.YtncabdcaamkhiaaG
/- N18: so many openings and as many closings (pure). -/
namespace Go.Proofs.YtncabdcaamkhiaaG
open Go Go.RowKit Go.Proofs
set_option linter.unusedSimpArgs false
set_option linter.unusedVariables false
theorem getD_app1 {l m : List Int} {i : Nat} (h : i < l.length) : (l ++ m).getD i 0 = l.getD i 0 := by
  rw [List.getD_eq_getElem?_getD, List.getD_eq_getElem?_getD, List.getElem?_append_left h]
theorem getD_app2 {l m : List Int} {i : Nat} (h : l.length ≤ i) : (l ++ m).getD i 0 = m.getD (i - l.length) 0 := by
  rw [List.getD_eq_getElem?_getD, List.getD_eq_getElem?_getD, List.getElem?_append_right h]
theorem getD_repl {n i : Nat} {x : Int} (h : i < n) : (List.replicate n x).getD i 0 = x := by
  rw [List.getD_eq_getElem?_getD, List.getElem?_replicate, if_pos h]; rfl
structure Deep (o c : Int) : Prop where
  ko : (brF o).1 = 1
  kc : (brF c).1 = 2
  en : canF (brF o).2 = canF c
end Go.Proofs.YtncabdcaamkhiaaG
namespace Go.Proofs.YtncabdcaamkhiaaG
open Go Go.RowKit Go.Proofs
set_option linter.unusedSimpArgs false
set_option linter.unusedVariables false
theorem wrap_mod (x m : Int) (h : 0 < m ∧ m < 1000) : ∃ n : Nat, IntKind.i64.wrap ((IntKind.u64.wrap x).tmod m) = (n : Int) ∧ n ≤ (m - 1).toNat := by
  have h0 : 0 ≤ IntKind.u64.wrap x := by rw [IntKind.wrap_u64]; omega
  have h1 : (IntKind.u64.wrap x).tmod m = (IntKind.u64.wrap x) % m := Int.tmod_eq_emod_of_nonneg h0
  have h2 := Int.emod_nonneg (IntKind.u64.wrap x) (show m ≠ 0 by omega)
  have h3 := Int.emod_lt_of_pos (IntKind.u64.wrap x) h.1
  refine ⟨((IntKind.u64.wrap x) % m).toNat, ?_, by omega⟩
  rw [h1, wrap_in (by omega) (by omega)]
  omega
theorem rep_rn2 (x : List Int) (i : Nat) (o : Int) : rn (x ++ List.replicate (i + 1) o) = rn (x ++ List.replicate i o) ++ [.raw (.int .i32 o)] := by rw [List.replicate_succ']; simp [rn]
end Go.Proofs.YtncabdcaamkhiaaG
/- N20: one pair and what lies inside (pure). -/
namespace Go.Proofs.YtncabdcaamkhiaaG
open Go Go.RowKit Go.Proofs
set_option linter.unusedSimpArgs false
set_option linter.unusedVariables false
def insT : List Int := [1, 2, 4, 7, 13, 14]
def inL (m : Nat) : List Int := 40 :: (List.replicate m 97 ++ [41])
def inT (x : List Int) : List Int := 14 :: (x ++ [14])
theorem inL_len (m : Nat) : (inL m).length = m + 2 := by simp [inL]
theorem inT_len (x : List Int) : (inT x).length = x.length + 2 := by simp [inT]
theorem inL_mid {m i : Nat} (h1 : 1 ≤ i) (h2 : i ≤ m) : (inL m).getD i 0 = 97 := by
  obtain ⟨j, rfl⟩ : ∃ j, i = j + 1 := ⟨i - 1, by omega⟩
  unfold inL; rw [List.getD_cons_succ, getD_app1 (by simp; omega), getD_repl (by omega)]
theorem inL_end (m : Nat) : (inL m).getD (m + 1) 0 = 41 := by
  unfold inL; rw [List.getD_cons_succ, getD_app2 (by simp)]; simp
theorem inT_mid {x : List Int} {i : Nat} (h1 : 1 ≤ i) (h2 : i ≤ x.length) : (inT x).getD i 0 = x.getD (i - 1) 0 := by
  obtain ⟨j, rfl⟩ : ∃ j, i = j + 1 := ⟨i - 1, by omega⟩
  unfold inT; rw [List.getD_cons_succ, getD_app1 (by omega)]; rfl
theorem inT_end (x : List Int) : (inT x).getD (x.length + 1) 0 = 14 := by
  unfold inT; rw [List.getD_cons_succ, getD_app2 (by simp)]; simp
theorem br40 : brF 40 = (1, 41) := by decide +kernel
theorem br41 : (brF 41).1 = 2 := by decide +kernel
theorem br97 : (brF 97).1 = 0 := by decide +kernel
theorem in_mid (x : List Int) : ∀ i, i ≤ x.length → stW (inL x.length) (inT x) (i + 1) = (([0], []), false)
  | 0, _ => by
    rw [stW, stW, if_neg (by simp)]
    rw [if_pos (by unfold kindF; rw [if_neg (by simp [inT])]; show (brF 40).1 = 1; rw [br40]), if_neg (by simp)]; rfl
  | i + 1, h => by
    have hk : kindF (inL x.length) (inT x) (i + 1) = 0 := by
      unfold kindF; split
      · rfl
      · rw [inL_mid (by omega) (by omega), br97]
    rw [stW, in_mid x i (by omega), if_neg (by simp), hk, if_neg (by decide), if_neg (by decide)]
theorem in_all (x : List Int) : stW (inL x.length) (inT x) (x.length + 2) = (([], [((0 : Int), ((x.length + 1 : Nat) : Int))]), false) := by
  have hk : kindF (inL x.length) (inT x) (x.length + 1) = 2 := by
    unfold kindF; rw [inT_end, if_neg (by decide), inL_end, br41]
  have he : endsF (inL x.length) 0 (x.length + 1) = true := by
    unfold endsF; rw [inL_end]; show decide (canF (brF 40).2 = canF 41) = true; rw [br40]; rfl
  rw [show x.length + 2 = (x.length + 1) + 1 from rfl, stW, in_mid x x.length (Nat.le_refl _), if_neg (by simp), hk, if_neg (by decide), if_pos rfl]
  simp only [List.length_cons, List.length_nil, Nat.zero_add]
  rw [fnd, if_pos (by exact he)]
  rfl
theorem in_pairs (x : List Int) : prsF (inL x.length) (inT x) = [((0 : Int), ((x.length + 1 : Nat) : Int))] := by
  unfold prsF
  rw [inL_len, in_all]
  unfold rising
  have h1 : ∀ i, 0 < i → List.find? (fun p : Int × Int => p.1 == ((i : Nat) : Int)) [((0 : Int), ((x.length + 1 : Nat) : Int))] = none := fun i hi => by
    rw [List.find?_cons, show ((0 : Int) == (i : Int)) = false by rw [beq_eq_false_iff_ne]; omega]; rfl
  rw [show x.length + 2 = 1 + (x.length + 1) by omega, List.range_add, List.filterMap_append]
  have h2 : List.filterMap (fun (i : Nat) => List.find? (fun p : Int × Int => p.1 == ((i : Nat) : Int)) [((0 : Int), ((x.length + 1 : Nat) : Int))]) (List.map (fun i => 1 + i) (List.range (x.length + 1))) = [] := by
    rw [List.filterMap_eq_nil_iff]
    intro a ha
    obtain ⟨i, _, rfl⟩ := List.mem_map.1 ha
    exact h1 (1 + i) (by omega)
  rw [h2]; rfl
theorem in_ins (x : List Int) : insF (inT x) 0 (x.length + 1) = x := by
  unfold insF inT
  simp
theorem in_formed {x : List Int} (h : ∀ y ∈ x, y ∈ insT) : formedF (inT x) = true := by
  have hm : ∀ y ∈ insT, mayF y = true := by decide +kernel
  unfold formedF; refine decide_eq_true fun i hi => ?_
  rw [inT_len] at hi
  by_cases q : 1 ≤ i ∧ i ≤ x.length
  · rw [inT_mid q.1 q.2]
    refine hm _ (h _ ?_)
    rw [List.getD_eq_getElem?_getD, List.getElem?_eq_getElem (by omega)]; exact List.getElem_mem _
  · by_cases q0 : i = 0
    · subst q0; rfl
    · rw [show i = x.length + 1 by omega, inT_end]; rfl
theorem in_no9 {x : List Int} (h : ∀ y ∈ x, y ∈ insT) (q : Nat) : (inT x).getD q 0 ≠ 9 := by
  have hm : ∀ y ∈ insT, y ≠ 9 := by decide +kernel
  by_cases q1 : 1 ≤ q ∧ q ≤ x.length
  · rw [inT_mid q1.1 q1.2]
    refine hm _ (h _ ?_)
    rw [List.getD_eq_getElem?_getD, List.getElem?_eq_getElem (by omega)]; exact List.getElem_mem _
  · by_cases q0 : q = 0
    · subst q0; show (14 : Int) ≠ 9; decide
    · by_cases q2 : q = x.length + 1
      · rw [q2, inT_end]; decide
      · rw [List.getD_eq_getElem?_getD, List.getElem?_eq_none (by rw [inT_len]; omega)]; decide
def inW (x : List Int) (e sos : Int) : Int := if hasF x e = true then e else if hasF x (3 - e) = true then sos else 14
theorem in_res {x : List Int} (h : ∀ y ∈ x, y ∈ insT) {e sos : Int} (he : e = 1 ∨ e = 2) (hs : sos = 1 ∨ sos = 2) :
    (resF (inL x.length) (inT x) (inT x) e sos).getD 0 0 = inW x e sos ∧ (resF (inL x.length) (inT x) (inT x) e sos).getD (x.length + 1) 0 = inW x e sos := by
  unfold resF
  rw [in_pairs, List.foldl_cons, List.foldl_nil]
  have hd : dirF (inT x) 0 (x.length + 1) e sos = if hasF x e = true then e else if hasF x (3 - e) = true then sos else 0 := by
    unfold dirF; rw [in_ins]; rfl
  have hn := in_no9 h
  unfold stpF
  simp only [Int.toNat_natCast, Int.toNat_zero]
  have hl := inT_len x
  have hw : (dirF (inT x) 0 (x.length + 1) e sos = 0 ∧ inW x e sos = 14) ∨ (dirF (inT x) 0 (x.length + 1) e sos ≠ 0 ∧ inW x e sos = dirF (inT x) 0 (x.length + 1) e sos) := by
    rw [hd]; unfold inW
    (repeat' split) <;> omega
  generalize dirF (inT x) 0 (x.length + 1) e sos = d at hw
  rcases hw with ⟨h1, h2⟩ | ⟨h1, h2⟩
  · rw [if_pos h1, h2, inT_end]; exact ⟨rfl, rfl⟩
  · rw [if_neg h1, h2]
    refine ⟨?_, ?_⟩
    · rw [put_not (not_hit (by omega) (hn 0)), put_hit (by omega) (by omega) (.inl rfl)]
    · rw [put_hit (by rw [put_len]; omega) (by rw [put_len]; omega) (.inl rfl)]
end Go.Proofs.YtncabdcaamkhiaaG
namespace Go.Proofs.YtncabdcaamkhiaaG
open Go Go.RowKit Go.Proofs
set_option linter.unusedSimpArgs false
set_option linter.unusedVariables false
theorem b_tf : (true == false) = false := rfl
theorem b_ft : (false == true) = false := rfl
theorem nts_end (y : Int) (l : List Int) (x : Int) : nts (y :: (l ++ [x])) = nts (y :: l) ++ [.raw (.int .i64 x)] := by simp [nts]
def m6 (x : Int) : Nat := ((IntKind.u64.wrap x).tmod 6).toNat
theorem m6_ok (x : Int) : IntKind.i64.wrap ((IntKind.u64.wrap x).tmod 6) = (m6 x : Int) ∧ m6 x < 6 := by
  have h0 : 0 ≤ IntKind.u64.wrap x := by rw [IntKind.wrap_u64]; omega
  have h1 : (IntKind.u64.wrap x).tmod 6 = (IntKind.u64.wrap x) % 6 := Int.tmod_eq_emod_of_nonneg h0
  unfold m6
  rw [h1, wrap_in (by omega) (by omega)]
  omega
theorem wrap6 (x : Int) : IntKind.i64.wrap ((IntKind.u64.wrap x).tmod 6) = (m6 x : Int) := (m6_ok x).1
theorem tv_ins {w : Nat} (h : w < 6) : [TV.v (.raw (.int .i64 1)), TV.v (.raw (.int .i64 2)), TV.v (.raw (.int .i64 4)), TV.v (.raw (.int .i64 7)), TV.v (.raw (.int .i64 13)), TV.v (.raw (.int .i64 14))].getD w .dead = .v (.raw (.int .i64 (insT.getD w 0))) := tv_nts (l := insT) (by exact h)
theorem ins_sd : ∀ w, w < 6 → insT.getD w 0 ∈ insT ∧ (insT.getD w 0 ≤ 7 → (insT.getD w 0 = 1 ∧ sdF (insT.getD w 0) = 1) ∨ (insT.getD w 0 ≠ 1 ∧ sdF (insT.getD w 0) = 2)) ∧ (¬ insT.getD w 0 ≤ 7 → sdF (insT.getD w 0) = 0) := by decide +kernel
def insX (inner : List Int) (i : Nat) : List Int := (inner.take i).map fun v => insT.getD (m6 v) 0
theorem insX_len {inner : List Int} {i : Nat} (h : i ≤ inner.length) : (insX inner i).length = i := by simp [insX]; omega
theorem insX_succ {inner : List Int} {i : Nat} (h : i < inner.length) : insX inner (i + 1) = insX inner i ++ [insT.getD (m6 (inner.getD i 0)) 0] := by
  unfold insX
  have : inner.getD i 0 = inner[i] := by rw [List.getD_eq_getElem?_getD, List.getElem?_eq_getElem h]; rfl
  rw [List.take_add_one, List.getElem?_eq_getElem h, this]
  simp only [Option.toList_some, List.map_append, List.map_cons, List.map_nil]
theorem insX_mem (inner : List Int) (i : Nat) : ∀ y ∈ insX inner i, y ∈ insT := fun y hy => by
  obtain ⟨v, _, rfl⟩ := List.mem_map.1 hy
  exact (ins_sd _ (m6_ok v).2).1
theorem hasF_snoc (l : List Int) (x e : Int) : hasF (l ++ [x]) e = (hasF l e || decide (sdF x = e)) := by
  rw [Bool.eq_iff_iff]
  simp only [hasF, decide_eq_true_eq, Bool.or_eq_true]
  constructor
  · rintro ⟨i, hi, h⟩
    rw [List.length_append, List.length_singleton] at hi
    by_cases q : i < l.length
    · rw [getD_app1 q] at h; exact .inl ⟨i, q, h⟩
    · rw [getD_app2 (by omega), show i - l.length = 0 by omega] at h; exact .inr h
  · rintro (⟨i, hi, h⟩ | h)
    · exact ⟨i, by rw [List.length_append]; omega, by rw [getD_app1 hi]; exact h⟩
    · exact ⟨l.length, by rw [List.length_append, List.length_singleton]; omega, by rw [getD_app2 (by omega), Nat.sub_self]; exact h⟩
set_option maxRecDepth 10000 in
set_option maxHeartbeats 4000000 in
theorem bracketInside_law (inner : List Int) (lev0 sos0 : Int) (hin : inner.length ≤ 2000000) : CallOk Try.prog 8 [sl (nts inner), i64 lev0, i64 sos0] (bo true) [] true := by
  have q6 := works_ok
  refine fn_ok' T_ok (orc_ok _) mixed Try.func8 rfl (by kernel_rfl) (lv [[0, 1, 2], [0, 1, 2, 18], [6], [0, 1, 2], [0, 1, 2], [0, 1, 2, 7, 8], [0, 1, 2, 7, 8, 9], [0, 1, 2, 7, 8, 9, 10, 11], [0, 1, 2, 7, 8, 9, 10, 11, 12], [0, 1, 2, 7, 8, 9, 10, 11, 12, 40], [0, 1, 2, 7, 8, 9, 10, 11, 12], [0, 1, 2, 7, 8, 9, 10, 11, 12, 13], [0, 1, 2, 7, 8, 9, 10, 11, 12, 13], [0, 1, 2, 7, 8, 9, 10, 11, 12, 13, 61], [0, 1, 2, 7, 8, 9, 10, 11, 12, 66], [0, 1, 2, 7, 8, 9, 10, 11, 12], [0, 1, 2, 7, 8, 9, 10, 11, 12], [1, 2, 7, 8, 9, 10, 11], [2, 8, 9, 10, 11, 14, 15], [2, 8, 9, 10, 11, 14, 15, 16], [2, 8, 9, 11, 14, 15, 16, 82], [8, 14, 15, 16], [2, 8, 14, 15, 16, 85], [8, 14, 15, 16], [6]]) 114 rfl (by simp) rfl (by simp [X.all, PX.all, TV.rawR, SV.isRaw]) ?_
  simp only [argsG, Nat.zero_add, Nat.reduceAdd]
  obtain ⟨n, hn, hn2⟩ : ∃ n : Nat, IntKind.i64.wrap ((IntKind.u64.wrap lev0).tmod 127) = (n : Int) ∧ n ≤ 126 := wrap_mod lev0 127 (by decide)
  obtain ⟨w, hw, hw2⟩ : ∃ w : Nat, IntKind.i64.wrap ((IntKind.u64.wrap sos0).tmod 2) = (w : Int) ∧ w ≤ 1 := wrap_mod sos0 2 (by decide)
  repeat' first
    | ((first
        | ((with_reducible refine vR_cons (by decide) ?_); generalize hk : KtR _ _ _ _ _ _ _ _ _ _ = k)
        | ((first
        | with_reducible refine vOps_cons' ?_
        | ((with_reducible apply orc_i); (focus (exact q6; done)))) <;> generalize hk : Kt _ _ _ _ _ _ _ _ _ = k)) <;> (simp only [Try.f8, lv, E1, E2, E5, ET, T, orc_mv, noO_mv, mvB, orc_bx, noO_bx, bxB, orc_sx, noO_sx, sxB, fwd, fwds, inv, mOk, Int.toNat_natCast, Nat.div_one, Nat.mul_one, Int.reduceToNat, SB, List.not_mem_nil, ↓reduceIte, ne_eq, reduceCtorEq, Nat.reduceLT, Nat.reduceEqDiff, Nat.reduceAdd, Nat.reduceMul, Nat.reduceLeDiff, Nat.reduceDiv, Nat.reduceMod, Nat.reduceSub, Nat.reduceBEq, List.length_map, rn_len, nts_len, prs_len, prs_cnt, nts_cnt, rn_cnt10, cnt_two, List.length_set, Int.add_sub_cancel, List.length_append, List.length_replicate, wrap6, b_tf, b_ft]; (try simp (disch := omega) only [wrap_in, Int.toNat_natCast, tv_rn, tv_nts, tv_prs0, tv_prs1, tv_ins]); subst hk))
    | with_reducible first | refine Kt_p ?_ | refine Kt_i (by kernel_rfl) ?_ | refine Kr_f (by kernel_rfl) ?_
    | (with_reducible refine Kr_t ?_; simp only [List.length_append, List.length_cons, List.length_nil, Nat.reduceAdd, Nat.reduceSub, List.drop_succ_cons, List.drop_zero])
    | with_reducible first | refine vR_nil ?_ | refine KtR_i (by kernel_rfl) ?_ | refine KrR_i (by kernel_rfl) ?_ | refine vR_skip (by decide) ?_
    | ((with_reducible refine vB_i ?_ ?_) <;> intro _ <;> (first | (exfalso; omega) | (exact absurd trivial ‹¬True›) | (try dsimp only [])))
    | ((with_reducible refine vOps_nil' ?_); refine Kr_i (by kernel_rfl) ?_; generalize hk : plain _ _ = G; simp only [lv, E3, E2, E5, rawX, deadX, SB, List.not_mem_nil, ↓reduceIte, ne_eq, reduceCtorEq, Nat.reduceLT, Nat.reduceEqDiff, Nat.reduceAdd, Nat.reduceMul, Nat.reduceLeDiff, Nat.reduceDiv, Nat.reduceMod, Nat.reduceSub, Nat.reduceBEq, List.length_map, rn_len, nts_len, prs_len, prs_cnt, nts_cnt, rn_cnt10, cnt_two, List.length_set, Int.add_sub_cancel, List.length_append, List.length_replicate, wrap6, b_tf, b_ft] at hk; subst hk)
    | with_reducible refine vSeq_i ?_
    | with_reducible first | refine vRegion_i (by kernel_rfl) ?_ | refine Kv_i ?_
    | ((with_reducible apply vStrK_i); (focus (rfl; done)))
    | ((with_reducible refine imp_i ?_); intro _)
    | with_reducible first | refine Ks_n ?_ | refine Ks_r ?_ | refine Ks_e ?_ | refine Kl_e ?_ | refine Kx_n ?_ | refine Kl_r ?_ | refine vRet_i ?_ | refine vSkip_i ?_ | refine vExit_i ?_ | refine vBlock_i ?_ | refine Ks_p ?_ | refine Kl_p ?_ | refine blk_p ?_ | exact Kb_p | refine vGoto_i ?_ | refine vLabel_i ?_ | refine Ks_g ?_ | refine Kl_g ?_ | refine blk_g ?_ | refine jmp_g ?_ | refine jmp_n ?_ | refine jmp_r ?_ | refine nog_n ?_ | refine nog_r ?_ | refine blk_n ?_ | refine blk_r ?_ | refine blk_e ?_ | refine blk_o (by decide) ?_ | refine cp_t ?_ | refine cp_f ?_
    | ((with_reducible apply vCond_x); (focus (simp only [lv, E1, E2, E5, ET, T, orc_mv, noO_mv, mvB, orc_bx, noO_bx, bxB, orc_sx, noO_sx, sxB, fwd, fwds, inv, mOk, Int.toNat_natCast, Nat.div_one, Nat.mul_one, Int.reduceToNat, SB, List.not_mem_nil, ↓reduceIte, ne_eq, reduceCtorEq, Nat.reduceLT, Nat.reduceEqDiff, Nat.reduceAdd, Nat.reduceMul, Nat.reduceLeDiff, Nat.reduceDiv, Nat.reduceMod, Nat.reduceSub, Nat.reduceBEq, List.length_map, rn_len, nts_len, prs_len, prs_cnt, nts_cnt, rn_cnt10, cnt_two, List.length_set, Int.add_sub_cancel, List.length_append, List.length_replicate, wrap6, b_tf, b_ft]; with_reducible first | exact Eq.refl (bo true) | exact Eq.refl (bo false))))
    | ((with_reducible refine And.intro ?_ ?_); (focus (try omega)))
  all_goals try (exfalso; omega)
  have hnm : (n : Int).tmod 2 = 0 ∨ (n : Int).tmod 2 = 1 := by rw [Int.tmod_eq_emod_of_nonneg (by omega)]; omega
  rw [hn, hw, wrap_in (n := 1 + (n : Int).tmod 2) (by omega) (by omega)]
  obtain ⟨e, he⟩ : ∃ e, e = 1 + (n : Int).tmod 2 := ⟨_, rfl⟩
  obtain ⟨sos, hsos⟩ : ∃ s : Int, s = 1 + (w : Int) := ⟨_, rfl⟩
  have he' : e = 1 ∨ e = 2 := by omega
  have hs' : sos = 1 ∨ sos = 2 := by omega
  rw [← he, ← hsos]
  have h91 : ∀ i, i ≤ inner.length → (insX inner i).length = i := fun i h => insX_len h
  refine vLoop_s (fun i : Nat => [(.t 0, .t (sl (nts inner))), (.t 1, .t (i64 n)), (.t 2, .t (i64 sos)), (.t 7, .t (.p (.one (.sr 0)))), (.t 8, .t (.p (.one (.sr 1)))), (.t 9, .t (i64 e)), (.t 10, .t (bo (hasF (insX inner i) e))), (.t 11, .t (bo (hasF (insX inner i) (3 - e)))), (.t 12, .t (i64 i)), (.row 0, .row 21 1 (rn (40 :: List.replicate i 97))), (.row 1, .row 3 1 (nts (14 :: insX inner i)))]) (fun i => i ≤ inner.length ∧ i ≤ 200) (fun i => inner.length - i) 0 ⟨by omega, by omega⟩ rfl ?_
  rintro i ⟨hi, hi2⟩
  have hil := h91 i hi
  by_cases hin2 : i < inner.length ∧ i < 200
  · obtain ⟨hx1, hx2⟩ := hin2
    have hm := (m6_ok (inner.getD i 0)).2
    obtain ⟨_, g1, g2⟩ := ins_sd _ hm
    have hsx := insX_succ hx1
    obtain ⟨x, hx⟩ : ∃ x, x = insT.getD (m6 (inner.getD i 0)) 0 := ⟨_, rfl⟩
    have k1 : hasF (insX inner (i + 1)) e = (hasF (insX inner i) e || decide (sdF (insT.getD (m6 (inner.getD i 0)) 0) = e)) := by rw [hsx, hasF_snoc]
    have k2 : hasF (insX inner (i + 1)) (3 - e) = (hasF (insX inner i) (3 - e) || decide (sdF (insT.getD (m6 (inner.getD i 0)) 0) = 3 - e)) := by rw [hsx, hasF_snoc]
    repeat' first
      | ((first
          | ((with_reducible refine vR_cons (by decide) ?_); generalize hk : KtR _ _ _ _ _ _ _ _ _ _ = k)
          | ((first
          | with_reducible refine vOps_cons' ?_) <;> generalize hk : Kt _ _ _ _ _ _ _ _ _ = k)) <;> (simp only [Try.f8, lv, E1, E2, E5, ET, T, orc_mv, noO_mv, mvB, orc_bx, noO_bx, bxB, orc_sx, noO_sx, sxB, fwd, fwds, inv, mOk, Int.toNat_natCast, Nat.div_one, Nat.mul_one, Int.reduceToNat, SB, List.not_mem_nil, ↓reduceIte, ne_eq, reduceCtorEq, Nat.reduceLT, Nat.reduceEqDiff, Nat.reduceAdd, Nat.reduceMul, Nat.reduceLeDiff, Nat.reduceDiv, Nat.reduceMod, Nat.reduceSub, Nat.reduceBEq, List.length_map, rn_len, nts_len, prs_len, prs_cnt, nts_cnt, rn_cnt10, cnt_two, List.length_set, Int.add_sub_cancel, List.length_append, List.length_replicate, wrap6, b_tf, b_ft]; (try simp (disch := omega) only [wrap_in, Int.toNat_natCast, tv_rn, tv_nts, tv_prs0, tv_prs1, tv_ins]); subst hk))
      | with_reducible first | refine Kt_p ?_ | refine Kt_i (by kernel_rfl) ?_ | refine Kr_f (by kernel_rfl) ?_
      | (with_reducible refine Kr_t ?_; simp only [List.length_append, List.length_cons, List.length_nil, Nat.reduceAdd, Nat.reduceSub, List.drop_succ_cons, List.drop_zero])
      | with_reducible first | refine vR_nil ?_ | refine KtR_i (by kernel_rfl) ?_ | refine KrR_i (by kernel_rfl) ?_ | refine vR_skip (by decide) ?_
      | ((with_reducible refine vB_i ?_ ?_) <;> intro _ <;> (first | (exfalso; omega) | (exact absurd trivial ‹¬True›) | (try dsimp only [])))
      | ((with_reducible refine vOps_nil' ?_); refine Kr_i (by kernel_rfl) ?_; generalize hk : plain _ _ = G; simp only [lv, E3, E2, E5, rawX, deadX, SB, List.not_mem_nil, ↓reduceIte, ne_eq, reduceCtorEq, Nat.reduceLT, Nat.reduceEqDiff, Nat.reduceAdd, Nat.reduceMul, Nat.reduceLeDiff, Nat.reduceDiv, Nat.reduceMod, Nat.reduceSub, Nat.reduceBEq, List.length_map, rn_len, nts_len, prs_len, prs_cnt, nts_cnt, rn_cnt10, cnt_two, List.length_set, Int.add_sub_cancel, List.length_append, List.length_replicate, wrap6, b_tf, b_ft] at hk; subst hk)
      | with_reducible refine vSeq_i ?_
      | with_reducible first | refine vRegion_i (by kernel_rfl) ?_ | refine Kv_i ?_
      | ((with_reducible apply vStrK_i); (focus (rfl; done)))
      | ((with_reducible refine imp_i ?_); intro _)
      | with_reducible first | refine Ks_n ?_ | refine Ks_r ?_ | refine Ks_e ?_ | refine Kl_e ?_ | refine Kx_n ?_ | refine Kl_r ?_ | refine vRet_i ?_ | refine vSkip_i ?_ | refine vExit_i ?_ | refine vBlock_i ?_ | refine Ks_p ?_ | refine Kl_p ?_ | refine blk_p ?_ | exact Kb_p | refine vGoto_i ?_ | refine vLabel_i ?_ | refine Ks_g ?_ | refine Kl_g ?_ | refine blk_g ?_ | refine jmp_g ?_ | refine jmp_n ?_ | refine jmp_r ?_ | refine nog_n ?_ | refine nog_r ?_ | refine blk_n ?_ | refine blk_r ?_ | refine blk_e ?_ | refine blk_o (by decide) ?_ | refine cp_t ?_ | refine cp_f ?_
      | ((with_reducible apply vCond_x); (focus (simp only [lv, E1, E2, E5, ET, T, orc_mv, noO_mv, mvB, orc_bx, noO_bx, bxB, orc_sx, noO_sx, sxB, fwd, fwds, inv, mOk, Int.toNat_natCast, Nat.div_one, Nat.mul_one, Int.reduceToNat, SB, List.not_mem_nil, ↓reduceIte, ne_eq, reduceCtorEq, Nat.reduceLT, Nat.reduceEqDiff, Nat.reduceAdd, Nat.reduceMul, Nat.reduceLeDiff, Nat.reduceDiv, Nat.reduceMod, Nat.reduceSub, Nat.reduceBEq, List.length_map, rn_len, nts_len, prs_len, prs_cnt, nts_cnt, rn_cnt10, cnt_two, List.length_set, Int.add_sub_cancel, List.length_append, List.length_replicate, wrap6, b_tf, b_ft]; with_reducible first | exact Eq.refl (bo true) | exact Eq.refl (bo false))))
      | ((with_reducible refine And.intro ?_ ?_); (focus (try omega)))
    all_goals try (exfalso; omega)
    all_goals
      refine Kl_n ⟨i + 1, ⟨by omega, by omega⟩, by omega, ?_⟩
      rw [k1, k2, hsx, nts_end, show rn (40 :: List.replicate (i + 1) 97) = _ from rep_rn2 [40] i 97]
      first
        | rw [show decide (sdF (insT.getD (m6 (inner.getD i 0)) 0) = e) = true from decide_eq_true (by omega), show decide (sdF (insT.getD (m6 (inner.getD i 0)) 0) = 3 - e) = false from decide_eq_false (by omega)]
        | rw [show decide (sdF (insT.getD (m6 (inner.getD i 0)) 0) = e) = false from decide_eq_false (by omega), show decide (sdF (insT.getD (m6 (inner.getD i 0)) 0) = 3 - e) = true from decide_eq_true (by omega)]
        | rw [show decide (sdF (insT.getD (m6 (inner.getD i 0)) 0) = e) = false from decide_eq_false (by omega), show decide (sdF (insT.getD (m6 (inner.getD i 0)) 0) = 3 - e) = false from decide_eq_false (by omega)]
      simp only [Bool.or_true, Bool.or_false, Int.natCast_add, Int.natCast_one]
      rfl
  · have hT := insX_mem inner i
    have hL1 : rn (40 :: List.replicate i 97) ++ [.raw (.int .i32 41)] = rn (inL i) := by simp [rn, inL]
    have hL2 : nts (14 :: insX inner i) ++ [.raw (.int .i64 14)] = nts (inT (insX inner i)) := by simp [nts, inT]
    obtain ⟨R, hR⟩ : ∃ R, R = resF (inL i) (inT (insX inner i)) (inT (insX inner i)) e sos := ⟨_, rfl⟩
    have hRl : R.length = i + 2 := by rw [hR]; unfold resF; rw [fold_len, inT_len, hil]
    have hI := inT_len (insX inner i)
    obtain ⟨hr1, hr2⟩ := in_res hT he' hs'
    rw [hil, ← hR] at hr1 hr2
    have hr2' : R.getD ((R.length : Int) - 1).toNat 0 = inW (insX inner i) e sos := by rw [← hr2, hRl]; congr 1; omega
    have q1 := resolve_good (inL i) (inT (insX inner i)) (inT (insX inner i)) n sos (by rw [inL_len]; omega) (by rw [inT_len, inL_len, hil]) (by rw [inT_len, inL_len, hil]) (by omega) hs' (in_formed hT)
    rw [← he, ← hR] at q1
    unfold inW at hr1 hr2'
    obtain ⟨b1, hb1⟩ : ∃ b, b = hasF (insX inner i) e := ⟨_, rfl⟩
    obtain ⟨b2, hb2⟩ : ∃ b, b = hasF (insX inner i) (3 - e) := ⟨_, rfl⟩
    rw [← hb1, ← hb2] at hr1 hr2' ⊢
    cases b1 <;> cases b2
    all_goals
      simp only [Bool.false_eq_true, if_false, if_true] at hr1 hr2'
    all_goals
      repeat' first
        | ((first
            | ((with_reducible refine vR_cons (by decide) ?_); generalize hk : KtR _ _ _ _ _ _ _ _ _ _ = k)
            | ((first
            | with_reducible refine vOps_cons' ?_
            | ((with_reducible apply orc_i); (focus ((simp only [hL1, hL2]; exact q1); done)))) <;> generalize hk : Kt _ _ _ _ _ _ _ _ _ = k)) <;> (simp only [Try.f8, lv, E1, E2, E5, ET, T, orc_mv, noO_mv, mvB, orc_bx, noO_bx, bxB, orc_sx, noO_sx, sxB, fwd, fwds, inv, mOk, Int.toNat_natCast, Nat.div_one, Nat.mul_one, Int.reduceToNat, SB, List.not_mem_nil, ↓reduceIte, ne_eq, reduceCtorEq, Nat.reduceLT, Nat.reduceEqDiff, Nat.reduceAdd, Nat.reduceMul, Nat.reduceLeDiff, Nat.reduceDiv, Nat.reduceMod, Nat.reduceSub, Nat.reduceBEq, List.length_map, rn_len, nts_len, prs_len, prs_cnt, nts_cnt, rn_cnt10, cnt_two, List.length_set, Int.add_sub_cancel, List.length_append, List.length_replicate, wrap6, b_tf, b_ft]; (try simp (disch := omega) only [wrap_in, Int.toNat_natCast, tv_rn, tv_nts, tv_prs0, tv_prs1, tv_ins]); subst hk))
        | with_reducible first | refine Kt_p ?_ | refine Kt_i (by kernel_rfl) ?_ | refine Kr_f (by kernel_rfl) ?_
        | (with_reducible refine Kr_t ?_; simp only [List.length_append, List.length_cons, List.length_nil, Nat.reduceAdd, Nat.reduceSub, List.drop_succ_cons, List.drop_zero])
        | with_reducible first | refine vR_nil ?_ | refine KtR_i (by kernel_rfl) ?_ | refine KrR_i (by kernel_rfl) ?_ | refine vR_skip (by decide) ?_
        | ((with_reducible refine vB_i ?_ ?_) <;> intro _ <;> (first | (exfalso; omega) | (exact absurd trivial ‹¬True›) | (try dsimp only [])))
        | ((with_reducible refine vOps_nil' ?_); refine Kr_i (by kernel_rfl) ?_; generalize hk : plain _ _ = G; simp only [lv, E3, E2, E5, rawX, deadX, SB, List.not_mem_nil, ↓reduceIte, ne_eq, reduceCtorEq, Nat.reduceLT, Nat.reduceEqDiff, Nat.reduceAdd, Nat.reduceMul, Nat.reduceLeDiff, Nat.reduceDiv, Nat.reduceMod, Nat.reduceSub, Nat.reduceBEq, List.length_map, rn_len, nts_len, prs_len, prs_cnt, nts_cnt, rn_cnt10, cnt_two, List.length_set, Int.add_sub_cancel, List.length_append, List.length_replicate, wrap6, b_tf, b_ft] at hk; subst hk)
        | with_reducible refine vSeq_i ?_
        | with_reducible first | refine vRegion_i (by kernel_rfl) ?_ | refine Kv_i ?_
        | ((with_reducible apply vStrK_i); (focus (rfl; done)))
        | ((with_reducible refine imp_i ?_); intro _)
        | with_reducible first | refine Ks_n ?_ | refine Ks_r ?_ | refine Ks_e ?_ | refine Kl_e ?_ | refine Kx_n ?_ | refine Kl_r ?_ | refine vRet_i ?_ | refine vSkip_i ?_ | refine vExit_i ?_ | refine vBlock_i ?_ | refine Ks_p ?_ | refine Kl_p ?_ | refine blk_p ?_ | exact Kb_p | refine vGoto_i ?_ | refine vLabel_i ?_ | refine Ks_g ?_ | refine Kl_g ?_ | refine blk_g ?_ | refine jmp_g ?_ | refine jmp_n ?_ | refine jmp_r ?_ | refine nog_n ?_ | refine nog_r ?_ | refine blk_n ?_ | refine blk_r ?_ | refine blk_e ?_ | refine blk_o (by decide) ?_ | refine cp_t ?_ | refine cp_f ?_
        | ((with_reducible apply vCond_x); (focus (simp only [lv, E1, E2, E5, ET, T, orc_mv, noO_mv, mvB, orc_bx, noO_bx, bxB, orc_sx, noO_sx, sxB, fwd, fwds, inv, mOk, Int.toNat_natCast, Nat.div_one, Nat.mul_one, Int.reduceToNat, SB, List.not_mem_nil, ↓reduceIte, ne_eq, reduceCtorEq, Nat.reduceLT, Nat.reduceEqDiff, Nat.reduceAdd, Nat.reduceMul, Nat.reduceLeDiff, Nat.reduceDiv, Nat.reduceMod, Nat.reduceSub, Nat.reduceBEq, List.length_map, rn_len, nts_len, prs_len, prs_cnt, nts_cnt, rn_cnt10, cnt_two, List.length_set, Int.add_sub_cancel, List.length_append, List.length_replicate, wrap6, b_tf, b_ft]; with_reducible first | exact Eq.refl (bo true) | exact Eq.refl (bo false))))
        | ((with_reducible refine And.intro ?_ ?_); (focus (try omega)))
      all_goals try (exfalso; omega)
    all_goals refine Kf_r ?_
    all_goals simp only [Try.f8, E4, E3, E2, E5, rawX, deadX, ET, T, SB, List.not_mem_nil, ↓reduceIte, ne_eq, reduceCtorEq, Nat.reduceLT, Nat.reduceEqDiff, Nat.reduceAdd, Nat.reduceMul, Nat.reduceLeDiff, Nat.reduceDiv, Nat.reduceMod, Nat.reduceSub, Nat.reduceBEq, List.length_map, rn_len, nts_len, prs_len, prs_cnt, nts_cnt, rn_cnt10, cnt_two, List.length_set, Int.add_sub_cancel, List.length_append, List.length_replicate, wrap6, b_tf, b_ft, X.p.injEq, X.tup.injEq, PX.one.injEq, PX.agg.injEq, TV.v.injEq, TV.sr.injEq, SV.raw.injEq, SV.sl.injEq, Value.bool.injEq, Value.int.injEq, List.cons.injEq, Prod.mk.injEq, true_and, and_true, and_self]
end Go.Proofs.YtncabdcaamkhiaaG
/- L10f: BracketInside at what came in. -/
namespace Go.Proofs.YtncabdcaamkhiaaG
open Go Go.RowKit Go.Proofs Go.Proofs.Ytncabdcaamkhiaa
theorem bracketInside_in {W : World} {v0 v1 v2 : Value} {x0 x1 x2 : SV} (t0 : Typ T 1048576 23 [x0]) (a0 : XR W (gI W) v0 (.p (.one (.v x0)))) (t1 : Typ T 1048576 3 [x1]) (a1 : XR W (gI W) v1 (.p (.one (.v x1)))) (t2 : Typ T 1048576 3 [x2]) (a2 : XR W (gI W) v2 (.p (.one (.v x2)))) :
    Calls Try.prog 8 #[v0, v1, v2] W fun e W' => e = .returned (.bool true) ∧ Below W.heap.size W W' := by
  obtain ⟨l, rfl, hl⟩ := typ_nt10 t0
  obtain ⟨n, rfl⟩ := typ_i64 t1
  obtain ⟨w, rfl⟩ := typ_i64 t2
  exact law_calls (bracketInside_law l n w (by omega)) (.cons a0 (.cons a1 (.cons a2 .nil)))
end Go.Proofs.YtncabdcaamkhiaaG
