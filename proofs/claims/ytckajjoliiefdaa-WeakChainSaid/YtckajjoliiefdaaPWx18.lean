-- written by xp.py (a program of this session's own) over the kit's printer; not trusted: Lean checks it
import Derived.Test.YtckajjoliiefdaaPWx0
import Derived.Test.YtckajjoliiefdaaPWx8
import Derived.Test.YtckajjoliiefdaaPWx9
import Derived.Test.YtckajjoliiefdaaPWx16
namespace Go.Proofs.Ytckajjoliiefdaa.PW
open Go.RowKit Go.Proofs.YtckajjoliiefdaaW.PrintWords Go.Proofs.YtckajjoliiefdaaW.PrintLast Go.Proofs.YtckajjoliiefdaaW.PrintMore
attribute [local go_sem] max2_int min2_int max_two min_two max_three min_three max_four min_four   -- for this text's walks alone
set_option linter.unusedVariables false
set_option linter.unusedSimpArgs false

/-! ### colophonlaw09_WeakChain: function 7 -/
def colophonlaw09_WeakChain.f (k : Nat) (l0 : List Int) (a1 : Int) : Option (Bool) := (colophonlaw09_works.f k).bind fun t => if t = true then ((weak_Resolve.f k l0 a1).bind fun q0 => if q0.2 = 0 then ((weak_Step.f k l0 a1 1).bind fun q1 => if q1.2 = 0 then (weak_Step.f k q1.1 a1 2).bind fun q2 => if q2.2 = 0 then (weak_Step.f k q2.1 a1 3).bind fun q3 => if q3.2 = 0 then (weak_Step.f k q3.1 a1 4).bind fun q4 => if q4.2 = 0 then (weak_Step.f k q4.1 a1 5).bind fun q5 => if q5.2 = 0 then (weak_Step.f k q5.1 a1 6).bind fun q6 => if q6.2 = 0 then (weak_Step.f k q6.1 a1 7).bind fun q7 => if q7.2 = 0 then (colophonref01_Ints.f k q0.1 q7.1) else none else none else none else none else none else none else none) else ((weak_Step.f k l0 a1 1).bind fun q1 => if q1.2 = q0.2 then some (decide (q0.1.length = 0) && decide (q1.1.length = 0)) else none)) else some false
set_option maxHeartbeats 2000000 in
set_option maxRecDepth 100000 in
theorem colophonlaw09_WeakChain.no (k : Nat) (A0 : Option Addr) (c0 : Nat) (l0 : List Int) (a1 : Int) (w : World) (hr0 : Kd.C (Kd.int .i64) w A0 l0.length l0) (hc0 : l0.length ≤ c0) (hwk : colophonlaw09_works.f k = some false) :
    Calls Try.prog 7 #[.slice A0 l0.length c0, .int .i64 a1] w fun e w' => e = .returned (.bool false) ∧ Below w.heap.size w w' := by
  have HC := Aside0.mk (show ∀ w5, Below w.heap.size w w5 → Kd.C (Kd.int .i64) w5 A0 l0.length l0 from fun w5 h => Kd.C_below hr0 h)
  have HL0 := Aside0.mk hc0
  have HB1 := Aside0.mk (Below.refl w.heap.size w)
  have HWK := Aside0.mk hwk
  clear hr0 hc0 hwk
  go_enter Try.func7, Try.ntmps7
  go_wp2_with (go_at_call 9; refine (colophonlaw09_works.calls k false _ HWK.out).mono ?_; rintro e w1 ⟨rfl, hd1⟩; replace HB1 := Aside0.mk (below_step HB1.out hd1); clear hd1)
  go_ret
  exact ⟨rfl, HB1.out⟩
set_option maxHeartbeats 2000000 in
set_option maxRecDepth 100000 in
theorem colophonlaw09_WeakChain.bad (k : Nat) (A0 : Option Addr) (c0 : Nat) (l0 : List Int) (a1 : Int) (w : World) (hr0 : Kd.C (Kd.int .i64) w A0 l0.length l0) (hc0 : l0.length ≤ c0) (a x1 : List Int) (e : Int) (hwk : colophonlaw09_works.f k = some true) (hres : weak_Resolve.f k l0 a1 = some (a, e)) (h0 : weak_Step.f k l0 a1 1 = some (x1, e)) (he : e ≠ 0) :
    Calls Try.prog 7 #[.slice A0 l0.length c0, .int .i64 a1] w fun e w' => e = .returned (.bool (decide (a.length = 0) && decide (x1.length = 0))) ∧ Below w.heap.size w w' := by
  have HC := Aside0.mk (show ∀ w5, Below w.heap.size w w5 → Kd.C (Kd.int .i64) w5 A0 l0.length l0 from fun w5 h => Kd.C_below hr0 h)
  have HL0 := Aside0.mk hc0
  have HB1 := Aside0.mk (Below.refl w.heap.size w)
  have HWK := Aside0.mk hwk
  have HRES := Aside0.mk hres
  have AH0 := Aside0.mk h0
  have b1 : (e != 0) = true := bne_iff_ne.mpr he
  have b2 : (e != e) = false := by simp
  clear hr0 hc0 hwk hres h0 he
  by_cases ha : a.length = 0
  · have b3 : ((a.length : Int) == 0) = true := by rw [ha]; rfl
    rw [show decide (a.length = 0) = true from decide_eq_true ha]
    rw [show decide (x1.length = 0) = ((x1.length : Int) == 0) by by_cases h : x1.length = 0 <;> simp [h] <;> omega, Bool.true_and]
    go_enter Try.func7, Try.ntmps7
    go_wp2_with (first | (go_at_call 9; refine (colophonlaw09_works.calls k true _ HWK.out).mono ?_; rintro e w1 ⟨rfl, hd1⟩; replace HB1 := Aside0.mk (below_step HB1.out hd1); clear hd1) | (go_at_call 10; refine (weak_Resolve.calls k A0 c0 l0 a1 a e _ (HC.out _ HB1.out) HL0.out HRES.out).mono ?_; rintro e2 w2 ⟨v2, rfl, ho2, hb2⟩; obtain ⟨A2, c2, rfl, hlc2, hC2⟩ := Kd.R_reads ho2; replace HB1 := Aside0.mk (below_step HB1.out hb2); have HC2 := Aside0.mk hC2; have HL2 := Aside0.mk hlc2; clear ho2 hb2 hC2 hlc2))
    refine wp_loop_rounds 2 ?_
    rw [rounds_succ]
    go_wp2_with (go_at_call 13; refine (weak_Step.calls k A0 c0 l0 a1 1 x1 e _ (HC.out _ HB1.out) HL0.out AH0.out).mono ?_; rintro e3 w3 ⟨v3, rfl, ho3, hb3⟩; obtain ⟨A3_0, c3_0, rfl, hlc3, hC3⟩ := Kd.R_reads ho3; replace HB1 := Aside0.mk (below_step HB1.out hb3); replace HC2 := Aside0.mk (Kd.C_below HC2.out hb3); have HC3 := Aside0.mk hC3; have HL3 := Aside0.mk hlc3; clear ho3 hb3 hC3 hlc3)
    go_ret
    exact ⟨rfl, HB1.out⟩
  · have b3 : ((a.length : Int) == 0) = false := beq_eq_false_iff_ne.mpr (by omega)
    rw [show decide (a.length = 0) = false from decide_eq_false ha, Bool.false_and]
    go_enter Try.func7, Try.ntmps7
    go_wp2_with (first | (go_at_call 9; refine (colophonlaw09_works.calls k true _ HWK.out).mono ?_; rintro e w1 ⟨rfl, hd1⟩; replace HB1 := Aside0.mk (below_step HB1.out hd1); clear hd1) | (go_at_call 10; refine (weak_Resolve.calls k A0 c0 l0 a1 a e _ (HC.out _ HB1.out) HL0.out HRES.out).mono ?_; rintro e2 w2 ⟨v2, rfl, ho2, hb2⟩; obtain ⟨A2, c2, rfl, hlc2, hC2⟩ := Kd.R_reads ho2; replace HB1 := Aside0.mk (below_step HB1.out hb2); have HC2 := Aside0.mk hC2; have HL2 := Aside0.mk hlc2; clear ho2 hb2 hC2 hlc2))
    refine wp_loop_rounds 2 ?_
    rw [rounds_succ]
    go_wp2_with (go_at_call 13; refine (weak_Step.calls k A0 c0 l0 a1 1 x1 e _ (HC.out _ HB1.out) HL0.out AH0.out).mono ?_; rintro e3 w3 ⟨v3, rfl, ho3, hb3⟩; obtain ⟨A3_0, c3_0, rfl, hlc3, hC3⟩ := Kd.R_reads ho3; replace HB1 := Aside0.mk (below_step HB1.out hb3); replace HC2 := Aside0.mk (Kd.C_below HC2.out hb3); have HC3 := Aside0.mk hC3; have HL3 := Aside0.mk hlc3; clear ho3 hb3 hC3 hlc3)
    go_ret
    exact ⟨rfl, HB1.out⟩
set_option maxHeartbeats 4000000 in
set_option maxRecDepth 100000 in
theorem colophonlaw09_WeakChain.good (k : Nat) (A0 : Option Addr) (c0 : Nat) (l0 : List Int) (a1 : Int) (w : World) (hr0 : Kd.C (Kd.int .i64) w A0 l0.length l0) (hc0 : l0.length ≤ c0) (a x1 x2 x3 x4 x5 x6 x7 : List Int) (b : Bool) (hwk : colophonlaw09_works.f k = some true) (hres : weak_Resolve.f k l0 a1 = some (a, 0)) (h0 : weak_Step.f k l0 a1 1 = some (x1, 0)) (h1 : weak_Step.f k x1 a1 2 = some (x2, 0)) (h2 : weak_Step.f k x2 a1 3 = some (x3, 0)) (h3 : weak_Step.f k x3 a1 4 = some (x4, 0)) (h4 : weak_Step.f k x4 a1 5 = some (x5, 0)) (h5 : weak_Step.f k x5 a1 6 = some (x6, 0)) (h6 : weak_Step.f k x6 a1 7 = some (x7, 0)) (hin : colophonref01_Ints.f k a x7 = some b) :
    Calls Try.prog 7 #[.slice A0 l0.length c0, .int .i64 a1] w fun e w' => e = .returned (.bool b) ∧ Below w.heap.size w w' := by
  have HC := Aside0.mk (show ∀ w5, Below w.heap.size w w5 → Kd.C (Kd.int .i64) w5 A0 l0.length l0 from fun w5 h => Kd.C_below hr0 h)
  have HL0 := Aside0.mk hc0
  have HB1 := Aside0.mk (Below.refl w.heap.size w)
  have HWK := Aside0.mk hwk
  obtain ⟨e, ee⟩ : ∃ e : Int, e = 0 := ⟨0, rfl⟩
  rw [← ee] at hres
  have HRES := Aside0.mk hres
  rw [ee] at HRES
  have HIN := Aside0.mk hin
  have AH0 := Aside0.mk h0
  have AH1 := Aside0.mk h1
  have AH2 := Aside0.mk h2
  have AH3 := Aside0.mk h3
  have AH4 := Aside0.mk h4
  have AH5 := Aside0.mk h5
  have AH6 := Aside0.mk h6
  clear hr0 hc0 hwk hres hin h0 h1 h2 h3 h4 h5 h6 ee e
  go_enter Try.func7, Try.ntmps7
  go_wp2_with (first | (go_at_call 9; refine (colophonlaw09_works.calls k true _ HWK.out).mono ?_; rintro e w1 ⟨rfl, hd1⟩; replace HB1 := Aside0.mk (below_step HB1.out hd1); clear hd1) | (go_at_call 10; refine (weak_Resolve.calls k A0 c0 l0 a1 a 0 _ (HC.out _ HB1.out) HL0.out HRES.out).mono ?_; rintro e2 w2 ⟨v2, rfl, ho2, hb2⟩; obtain ⟨A2, c2, rfl, hlc2, hC2⟩ := Kd.R_reads ho2; replace HB1 := Aside0.mk (below_step HB1.out hb2); have HC2 := Aside0.mk hC2; have HL2 := Aside0.mk hlc2; clear ho2 hb2 hC2 hlc2))
  refine wp_loop_rounds 8 ?_
  rw [rounds_succ]
  go_wp2_with (go_at_call 13; refine (weak_Step.calls k A0 c0 l0 a1 1 x1 0 _ (HC.out _ HB1.out) HL0.out AH0.out).mono ?_; rintro e3 w3 ⟨v3, rfl, ho3, hb3⟩; obtain ⟨A3_0, c3_0, rfl, hlc3, hC3⟩ := Kd.R_reads ho3; replace HB1 := Aside0.mk (below_step HB1.out hb3); replace HC2 := Aside0.mk (Kd.C_below HC2.out hb3); have HC3 := Aside0.mk hC3; have HL3 := Aside0.mk hlc3; clear ho3 hb3 hC3 hlc3)
  rw [rounds_succ]
  go_wp2_with ((go_at_call 13; refine (weak_Step.calls k A3_0 c3_0 x1 a1 2 x2 0 _ (HC3.out) HL3.out AH1.out).mono ?_; rintro e3 w3 ⟨v3, rfl, ho3, hb3⟩; obtain ⟨A3_1, c3_1, rfl, hlc3, hC3⟩ := Kd.R_reads ho3; replace HB1 := Aside0.mk (below_step HB1.out hb3); replace HC2 := Aside0.mk (Kd.C_below HC2.out hb3); replace HC3 := Aside0.mk hC3; replace HL3 := Aside0.mk hlc3; clear ho3 hb3 hC3 hlc3))
  rw [rounds_succ]
  go_wp2_with ((go_at_call 13; refine (weak_Step.calls k A3_1 c3_1 x2 a1 3 x3 0 _ (HC3.out) HL3.out AH2.out).mono ?_; rintro e3 w3 ⟨v3, rfl, ho3, hb3⟩; obtain ⟨A3_2, c3_2, rfl, hlc3, hC3⟩ := Kd.R_reads ho3; replace HB1 := Aside0.mk (below_step HB1.out hb3); replace HC2 := Aside0.mk (Kd.C_below HC2.out hb3); replace HC3 := Aside0.mk hC3; replace HL3 := Aside0.mk hlc3; clear ho3 hb3 hC3 hlc3))
  rw [rounds_succ]
  go_wp2_with ((go_at_call 13; refine (weak_Step.calls k A3_2 c3_2 x3 a1 4 x4 0 _ (HC3.out) HL3.out AH3.out).mono ?_; rintro e3 w3 ⟨v3, rfl, ho3, hb3⟩; obtain ⟨A3_3, c3_3, rfl, hlc3, hC3⟩ := Kd.R_reads ho3; replace HB1 := Aside0.mk (below_step HB1.out hb3); replace HC2 := Aside0.mk (Kd.C_below HC2.out hb3); replace HC3 := Aside0.mk hC3; replace HL3 := Aside0.mk hlc3; clear ho3 hb3 hC3 hlc3))
  rw [rounds_succ]
  go_wp2_with ((go_at_call 13; refine (weak_Step.calls k A3_3 c3_3 x4 a1 5 x5 0 _ (HC3.out) HL3.out AH4.out).mono ?_; rintro e3 w3 ⟨v3, rfl, ho3, hb3⟩; obtain ⟨A3_4, c3_4, rfl, hlc3, hC3⟩ := Kd.R_reads ho3; replace HB1 := Aside0.mk (below_step HB1.out hb3); replace HC2 := Aside0.mk (Kd.C_below HC2.out hb3); replace HC3 := Aside0.mk hC3; replace HL3 := Aside0.mk hlc3; clear ho3 hb3 hC3 hlc3))
  rw [rounds_succ]
  go_wp2_with ((go_at_call 13; refine (weak_Step.calls k A3_4 c3_4 x5 a1 6 x6 0 _ (HC3.out) HL3.out AH5.out).mono ?_; rintro e3 w3 ⟨v3, rfl, ho3, hb3⟩; obtain ⟨A3_5, c3_5, rfl, hlc3, hC3⟩ := Kd.R_reads ho3; replace HB1 := Aside0.mk (below_step HB1.out hb3); replace HC2 := Aside0.mk (Kd.C_below HC2.out hb3); replace HC3 := Aside0.mk hC3; replace HL3 := Aside0.mk hlc3; clear ho3 hb3 hC3 hlc3))
  rw [rounds_succ]
  go_wp2_with ((go_at_call 13; refine (weak_Step.calls k A3_5 c3_5 x6 a1 7 x7 0 _ (HC3.out) HL3.out AH6.out).mono ?_; rintro e3 w3 ⟨v3, rfl, ho3, hb3⟩; obtain ⟨A3_6, c3_6, rfl, hlc3, hC3⟩ := Kd.R_reads ho3; replace HB1 := Aside0.mk (below_step HB1.out hb3); replace HC2 := Aside0.mk (Kd.C_below HC2.out hb3); replace HC3 := Aside0.mk hC3; replace HL3 := Aside0.mk hlc3; clear ho3 hb3 hC3 hlc3))
  rw [rounds_succ]
  go_wp2_with (go_at_call 12; refine (colophonref01_Ints.calls k A2 c2 a A3_6 c3_6 x7 b _ HC2.out HL2.out HC3.out HL3.out HIN.out).mono ?_; rintro e4 w4 ⟨rfl, hd4⟩; replace HB1 := Aside0.mk (below_step HB1.out (Drawn0.below hd4)); clear hd4)
  go_ret
  exact ⟨rfl, HB1.out⟩
theorem colophonlaw09_WeakChain.calls (k : Nat) (A0 : Option Addr) (c0 : Nat) (l0 : List Int) (a1 : Int) (r : Bool) (w : World) (hr0 : Kd.C (Kd.int .i64) w A0 l0.length l0) (hc0 : l0.length ≤ c0) (h : colophonlaw09_WeakChain.f k l0 a1 = some r) :
    Calls Try.prog 7 #[.slice A0 l0.length c0, .int .i64 a1] w fun e w' => e = .returned (.bool r) ∧ Below w.heap.size w w' := by
  unfold colophonlaw09_WeakChain.f at h
  obtain ⟨t, ht, h⟩ := Option.bind_eq_some_iff.mp h
  cases t with
  | false =>
    rw [if_neg (by decide)] at h
    injection h with h
    subst h
    exact colophonlaw09_WeakChain.no k A0 c0 l0 a1 w hr0 hc0 ht
  | true =>
    rw [if_pos rfl] at h
    obtain ⟨⟨a, e⟩, hq, h⟩ := Option.bind_eq_some_iff.mp h
    dsimp only at h
    by_cases he : e = 0
    · subst he
      rw [if_pos rfl] at h
      obtain ⟨⟨x1, e1⟩, h0, h⟩ := Option.bind_eq_some_iff.mp h
      dsimp only at h
      by_cases he1 : e1 = 0
      case neg => rw [if_neg he1] at h; cases h
      subst he1
      rw [if_pos rfl] at h
      obtain ⟨⟨x2, e2⟩, h1, h⟩ := Option.bind_eq_some_iff.mp h
      dsimp only at h
      by_cases he2 : e2 = 0
      case neg => rw [if_neg he2] at h; cases h
      subst he2
      rw [if_pos rfl] at h
      obtain ⟨⟨x3, e3⟩, h2, h⟩ := Option.bind_eq_some_iff.mp h
      dsimp only at h
      by_cases he3 : e3 = 0
      case neg => rw [if_neg he3] at h; cases h
      subst he3
      rw [if_pos rfl] at h
      obtain ⟨⟨x4, e4⟩, h3, h⟩ := Option.bind_eq_some_iff.mp h
      dsimp only at h
      by_cases he4 : e4 = 0
      case neg => rw [if_neg he4] at h; cases h
      subst he4
      rw [if_pos rfl] at h
      obtain ⟨⟨x5, e5⟩, h4, h⟩ := Option.bind_eq_some_iff.mp h
      dsimp only at h
      by_cases he5 : e5 = 0
      case neg => rw [if_neg he5] at h; cases h
      subst he5
      rw [if_pos rfl] at h
      obtain ⟨⟨x6, e6⟩, h5, h⟩ := Option.bind_eq_some_iff.mp h
      dsimp only at h
      by_cases he6 : e6 = 0
      case neg => rw [if_neg he6] at h; cases h
      subst he6
      rw [if_pos rfl] at h
      obtain ⟨⟨x7, e7⟩, h6, h⟩ := Option.bind_eq_some_iff.mp h
      dsimp only at h
      by_cases he7 : e7 = 0
      case neg => rw [if_neg he7] at h; cases h
      subst he7
      rw [if_pos rfl] at h
      exact colophonlaw09_WeakChain.good k A0 c0 l0 a1 w hr0 hc0 a x1 x2 x3 x4 x5 x6 x7 r ht hq h0 h1 h2 h3 h4 h5 h6 h
    · rw [if_neg he] at h
      obtain ⟨⟨x1, e1⟩, h0, h⟩ := Option.bind_eq_some_iff.mp h
      dsimp only at h
      by_cases he1 : e1 = e
      case neg => rw [if_neg he1] at h; cases h
      subst he1
      rw [if_pos rfl] at h
      injection h with h
      subst h
      exact colophonlaw09_WeakChain.bad k A0 c0 l0 a1 w hr0 hc0 a x1 e1 ht hq h0 he
/-- THE ONE PURE STATEMENT of colophonlaw09_WeakChain: yours. -/
def colophonlaw09_WeakChain.Pure : Prop := ∀ (l0 : List Int) (a1 : Int), l0.length ≤ maxLen → l0.length * 8 ≤ 140737488351232 → (∀ x ∈ l0, (Lit.int .i64 x).wf = true) → (Lit.int .i64 a1).wf = true → ∃ k, colophonlaw09_WeakChain.f k l0 a1 = some true
theorem colophonlaw09_WeakChain.walk (P : colophonlaw09_WeakChain.Pure) (a0 : Option Addr) (len0 cap0 : Nat) (z0 : List Int) (a1 : Int) (w : World) (w0 : (a0 = none ∧ len0 = 0 ∧ cap0 = 0 ∧ z0 = []) ∨ ∃ x, a0 = some x ∧ len0 ≤ cap0 ∧ cap0 ≤ maxLen ∧ z0.length = cap0 ∧ (∀ i, i < z0.length → w.cell? (x.add i) = some (.int .i64 (z0.getD i 0))) ∧ ∀ n ∈ z0, (Lit.int .i64 n).wf = true) (y0 : len0 * 8 ≤ 140737488351232) (w1 : (Lit.int .i64 a1).wf = true) :
    Calls Try.prog 7 #[.slice a0 len0 cap0, .int .i64 a1] w fun e w' => e = .returned (.bool true) ∧ Below w.heap.size w w' := by
  obtain ⟨l0, rfl, hr0, hm0, hw0, hc0⟩ := ReadsInt.ofRowC w0
  obtain ⟨k, h⟩ := P l0 a1 hm0 y0 hw0 w1
  refine (colophonlaw09_WeakChain.calls k _ _ l0 a1 true w (Kd.C_of_reads (d := (0 : Int)) (h1 := fun _ => rfl) hr0) hc0 h).mono ?_
  rintro e w' ⟨rfl, hd⟩
  exact ⟨rfl, hd⟩

end Go.Proofs.Ytckajjoliiefdaa.PW
