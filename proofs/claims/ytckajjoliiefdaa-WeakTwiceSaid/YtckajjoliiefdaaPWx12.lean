-- written by xp.py (a program of this session's own) over the kit's printer; not trusted: Lean checks it
import Derived.Test.YtckajjoliiefdaaPWx0
import Derived.Test.YtckajjoliiefdaaPWx11
namespace Go.Proofs.Ytckajjoliiefdaa.PW
open Go.RowKit Go.Proofs.YtckajjoliiefdaaW.PrintWords Go.Proofs.YtckajjoliiefdaaW.PrintLast Go.Proofs.YtckajjoliiefdaaW.PrintMore
attribute [local go_sem] max2_int min2_int max_two min_two max_three min_three max_four min_four   -- for this text's walks alone
set_option linter.unusedVariables false
set_option linter.unusedSimpArgs false

/-! ### colophonref09_one: function 28 -/
def colophonref09_one.j0 : Nat → List Int → Int → Int → Bool → Option (Int)
  | 0, _, _, _, _ => none
  | k + 1, x0, x4, x11, x84 => if x84 = true then (if x11 = 5 then (if 0 ≤ (wrap64 (x4 + 1)) then (if (wrap64 (x4 + 1)) < (x0.length : Int) then (if (rd x0 (wrap64 (x4 + 1))) = 4 then (some (rd x0 (wrap64 (x4 + 1)))) else (if x11 = 8 then (if (rd x0 (wrap64 (x4 + 1))) = 7 then (some (rd x0 (wrap64 (x4 + 1)))) else (some x11)) else (some x11))) else (none)) else (none)) else (if x11 = 8 then (if 0 ≤ (wrap64 (x4 + 1)) then (if (wrap64 (x4 + 1)) < (x0.length : Int) then (if (rd x0 (wrap64 (x4 + 1))) = 4 then (some (rd x0 (wrap64 (x4 + 1)))) else (if (rd x0 (wrap64 (x4 + 1))) = 7 then (some (rd x0 (wrap64 (x4 + 1)))) else (some x11))) else (none)) else (none)) else (some x11))) else (some x11)
def colophonref09_one.f (k : Nat) (l0 : List Int) (l1 : List Int) (a2 : Int) (a3 : Int) (a4 : Int) : Option (Int) := if 0 ≤ a4 then (if a4 < (l0.length : Int) then (if a3 = 1 then (if (rd l0 a4) = 9 then (if a4 = 0 then (some a2) else (if 0 ≤ (wrap64 (a4 - 1)) then (if (wrap64 (a4 - 1)) < (l1.length : Int) then (if (rd l1 (wrap64 (a4 - 1))) = 20 then (some 14) else (if (rd l1 (wrap64 (a4 - 1))) = 21 then (some 14) else (if (rd l1 (wrap64 (a4 - 1))) = 22 then (some 14) else (if (rd l1 (wrap64 (a4 - 1))) = 23 then (some 14) else (some (rd l1 (wrap64 (a4 - 1)))))))) else (none)) else (none))) else (some (rd l0 a4))) else (if a3 = 2 then (if (rd l0 a4) = 4 then ((colophonref09_strong.f k l0 a2 a4).bind fun t170 => (if t170 = 3 then (some 7) else (some (rd l0 a4)))) else (some (rd l0 a4))) else (if a3 = 3 then (if (rd l0 a4) = 3 then (some 2) else (some (rd l0 a4))) else (if a3 = 4 then (if a4 > 0 then (if (wrap64 (a4 + 1)) < (l0.length : Int) then (if 0 ≤ (wrap64 (a4 - 1)) then (if (wrap64 (a4 - 1)) < (l1.length : Int) then (if 0 ≤ (wrap64 (a4 + 1)) then (colophonref09_one.j0 k l0 a4 (rd l0 a4) ((rd l1 (wrap64 (a4 - 1))) == (rd l0 (wrap64 (a4 + 1))))) else (none)) else (none)) else (none)) else (colophonref09_one.j0 k l0 a4 (rd l0 a4) false)) else (colophonref09_one.j0 k l0 a4 (rd l0 a4) false)) else (if a3 = 5 then (if (rd l0 a4) = 6 then ((colophonref09_edge.f k l0 a4 (-1)).bind fun t182 => (if t182 = 4 then (some 4) else ((colophonref09_edge.f k l0 a4 1).bind fun t183 => (if t183 = 4 then (some 4) else (some (rd l0 a4)))))) else (some (rd l0 a4))) else (if a3 = 6 then (if (rd l0 a4) = 5 then (some 14) else (if (rd l0 a4) = 6 then (some 14) else (if (rd l0 a4) = 8 then (some 14) else (some (rd l0 a4))))) else (if a3 = 7 then (if (rd l0 a4) = 4 then ((colophonref09_strong.f k l0 a2 a4).bind fun t184 => (if t184 = 1 then (some 1) else (some (rd l0 a4)))) else (some (rd l0 a4))) else (some (rd l0 a4))))))))) else (none)) else (none)
theorem colophonref09_one.mono_l : ∀ k, (∀ y0 y1 y2 y3, LeO (colophonref09_one.j0 k y0 y1 y2 y3) (colophonref09_one.j0 (k + 1) y0 y1 y2 y3))
  | 0 => fun _ _ _ _ r h => by simp [colophonref09_one.j0] at h
  | k + 1 => by
    have ih0 := colophonref09_one.mono_l k
    · intro y0 y1 y2 y3
      unfold colophonref09_one.j0
      repeat' first
      | (with_reducible exact ih0 _ _ _ _)
      | (with_reducible exact colophonref09_edge.mono _ _ _ _)
      | (with_reducible exact colophonref09_strong.mono _ _ _ _)
      | (with_reducible exact LeO.refl _)
      | (with_reducible exact LeO.none _)
      | (with_reducible refine LeO.ite ?_ ?_)
      | (with_reducible refine LeO.bind ?_ (fun _ => ?_))
      | exact ih0 _ _ _ _
      | exact colophonref09_edge.mono _ _ _ _
      | exact colophonref09_strong.mono _ _ _ _
      | exact LeO.none _
      | refine LeO.ite ?_ ?_
      | refine LeO.bind ?_ (fun _ => ?_)
theorem colophonref09_one.mono : ∀ a0 a1 a2 a3 a4 k, LeO (colophonref09_one.f k a0 a1 a2 a3 a4) (colophonref09_one.f (k + 1) a0 a1 a2 a3 a4) := by
  intro a0 a1 a2 a3 a4 k
  have ih0 := colophonref09_one.mono_l k
  unfold colophonref09_one.f
  repeat' first
      | (with_reducible exact ih0 _ _ _ _)
      | (with_reducible exact colophonref09_edge.mono _ _ _ _)
      | (with_reducible exact colophonref09_strong.mono _ _ _ _)
      | (with_reducible exact LeO.refl _)
      | (with_reducible exact LeO.none _)
      | (with_reducible refine LeO.ite ?_ ?_)
      | (with_reducible refine LeO.bind ?_ (fun _ => ?_))
      | exact ih0 _ _ _ _
      | exact colophonref09_edge.mono _ _ _ _
      | exact colophonref09_strong.mono _ _ _ _
      | exact LeO.none _
      | refine LeO.ite ?_ ?_
      | refine LeO.bind ?_ (fun _ => ?_)
set_option maxHeartbeats 8000000 in
set_option maxRecDepth 100000 in
theorem colophonref09_one.calls (k : Nat) (A0 : Option Addr) (c0 : Nat) (l0 : List Int) (A1 : Option Addr) (c1 : Nat) (l1 : List Int) (a2 : Int) (a3 : Int) (a4 : Int) (r : Int) (w : World) (hr0 : Kd.C (Kd.int .i64) w A0 l0.length l0) (hc0 : l0.length ≤ c0) (hr1 : Kd.C (Kd.int .i64) w A1 l1.length l1) (hc1 : l1.length ≤ c1) (h : colophonref09_one.f k l0 l1 a2 a3 a4 = some r) :
    Calls Try.prog 28 #[.slice A0 l0.length c0, .slice A1 l1.length c1, .int .i64 a2, .int .i64 a3, .int .i64 a4] w fun e w' => e = .returned (.int .i64 r) ∧ Drawn0 w w' := by
  have HR0 := Aside0.mk hr0
  have HC0 := Aside0.mk hc0
  clear hr0 hc0
  have HR1 := Aside0.mk hr1
  have HC1 := Aside0.mk hc1
  clear hr1 hc1
  have H : (if 0 ≤ a4 then (if a4 < (l0.length : Int) then (if a3 = 1 then (if (rd l0 a4) = 9 then (if a4 = 0 then (some a2) else (if 0 ≤ (wrap64 (a4 - 1)) then (if (wrap64 (a4 - 1)) < (l1.length : Int) then (if (rd l1 (wrap64 (a4 - 1))) = 20 then (some 14) else (if (rd l1 (wrap64 (a4 - 1))) = 21 then (some 14) else (if (rd l1 (wrap64 (a4 - 1))) = 22 then (some 14) else (if (rd l1 (wrap64 (a4 - 1))) = 23 then (some 14) else (some (rd l1 (wrap64 (a4 - 1)))))))) else (none)) else (none))) else (some (rd l0 a4))) else (if a3 = 2 then (if (rd l0 a4) = 4 then ((colophonref09_strong.f k l0 a2 a4).bind fun t170 => (if t170 = 3 then (some 7) else (some (rd l0 a4)))) else (some (rd l0 a4))) else (if a3 = 3 then (if (rd l0 a4) = 3 then (some 2) else (some (rd l0 a4))) else (if a3 = 4 then (if a4 > 0 then (if (wrap64 (a4 + 1)) < (l0.length : Int) then (if 0 ≤ (wrap64 (a4 - 1)) then (if (wrap64 (a4 - 1)) < (l1.length : Int) then (if 0 ≤ (wrap64 (a4 + 1)) then (colophonref09_one.j0 k l0 a4 (rd l0 a4) ((rd l1 (wrap64 (a4 - 1))) == (rd l0 (wrap64 (a4 + 1))))) else (none)) else (none)) else (none)) else (colophonref09_one.j0 k l0 a4 (rd l0 a4) false)) else (colophonref09_one.j0 k l0 a4 (rd l0 a4) false)) else (if a3 = 5 then (if (rd l0 a4) = 6 then ((colophonref09_edge.f k l0 a4 (-1)).bind fun t182 => (if t182 = 4 then (some 4) else ((colophonref09_edge.f k l0 a4 1).bind fun t183 => (if t183 = 4 then (some 4) else (some (rd l0 a4)))))) else (some (rd l0 a4))) else (if a3 = 6 then (if (rd l0 a4) = 5 then (some 14) else (if (rd l0 a4) = 6 then (some 14) else (if (rd l0 a4) = 8 then (some 14) else (some (rd l0 a4))))) else (if a3 = 7 then (if (rd l0 a4) = 4 then ((colophonref09_strong.f k l0 a2 a4).bind fun t184 => (if t184 = 1 then (some 1) else (some (rd l0 a4)))) else (some (rd l0 a4))) else (some (rd l0 a4))))))))) else (none)) else (none)) = some r := h
  clear h
  by_cases c6 : 0 ≤ a4
  · rw [if_pos c6] at H
    have c6b0 : decide (0 ≤ a4) = true := decide_eq_true c6
    clear c6
    by_cases c7 : a4 < (l0.length : Int)
    · rw [if_pos c7] at H
      have c7b0 : decide (a4 < (l0.length : Int)) = true := decide_eq_true c7
      clear c7
      by_cases c8 : a3 = 1
      · rw [if_pos c8] at H
        have c8b0 : (a3 == 1) = true := beq_iff_eq.mpr c8
        have c8b1 : (a3 != 1) = false := bne_eq_false_iff_eq.mpr c8
        clear c8
        by_cases c9 : (rd l0 a4) = 9
        · rw [if_pos c9] at H
          have c9b0 : ((rd l0 a4) == 9) = true := beq_iff_eq.mpr c9
          have c9b1 : ((rd l0 a4) != 9) = false := bne_eq_false_iff_eq.mpr c9
          clear c9
          by_cases c10 : a4 = 0
          · rw [if_pos c10] at H
            have c10b0 : (a4 == 0) = true := beq_iff_eq.mpr c10
            have c10b1 : (a4 != 0) = false := bne_eq_false_iff_eq.mpr c10
            clear c10
            obtain rfl := Option.some.inj H
            have p168 : 0 ≤ (a4 : Int) := of_decide_eq_true (by first | (with_reducible assumption) | assumption)
            have q168 : a4 < (l0.length : Int) := of_decide_eq_true (by first | (with_reducible assumption) | assumption)
            obtain ⟨ad168, e168, hx168_0⟩ := Kd.at_int HR0.out a4 p168 q168
            cases e168
            replace p168 := eq_true p168
            replace q168 := eq_true q168
            go_enter Try.func28, Try.ntmps28
            go_wp2
            repeat (go_quiet (fail); try go_wp2)
            go_ret
            exact ⟨by first | rfl | (simp; done) | (simp [*]; done), by repeat (first | exact Drawn0.refl _ | apply Drawn0.step)⟩
          · rw [if_neg c10] at H
            have c10b0 : (a4 == 0) = false := beq_eq_false_iff_ne.mpr c10
            have c10b1 : (a4 != 0) = true := bne_iff_ne.mpr c10
            obtain ⟨ji11, hji11⟩ : ∃ j_ : Int, (wrap64 (a4 - 1)) = j_ := ⟨_, rfl⟩
            replace H : (if 0 ≤ (ji11) then (if (ji11) < (l1.length : Int) then (if (rd l1 (ji11)) = 20 then (some 14) else (if (rd l1 (ji11)) = 21 then (some 14) else (if (rd l1 (ji11)) = 22 then (some 14) else (if (rd l1 (ji11)) = 23 then (some 14) else (some (rd l1 (ji11))))))) else (none)) else (none)) = some r := by first | (rw [hji11] at H; exact H) | (simp only [hji11] at H ⊢; exact H)
            have hji11w : (IntKind.i64.wrap (a4 - 1)) = ji11 := (i64_w _).trans hji11
            by_cases c12 : 0 ≤ (ji11)
            · rw [if_pos c12] at H
              have c12b0 : decide (0 ≤ (ji11)) = true := decide_eq_true c12
              clear c12
              by_cases c13 : (ji11) < (l1.length : Int)
              · rw [if_pos c13] at H
                have c13b0 : decide ((ji11) < (l1.length : Int)) = true := decide_eq_true c13
                clear c13
                by_cases c14 : (rd l1 (ji11)) = 20
                · rw [if_pos c14] at H
                  have c14b0 : ((rd l1 (ji11)) == 20) = true := beq_iff_eq.mpr c14
                  have c14b1 : ((rd l1 (ji11)) != 20) = false := bne_eq_false_iff_eq.mpr c14
                  clear c14
                  obtain rfl := Option.some.inj H
                  have p168 : 0 ≤ (a4 : Int) := of_decide_eq_true (by first | (with_reducible assumption) | assumption)
                  have q168 : a4 < (l0.length : Int) := of_decide_eq_true (by first | (with_reducible assumption) | assumption)
                  obtain ⟨ad168, e168, hx168_0⟩ := Kd.at_int HR0.out a4 p168 q168
                  cases e168
                  replace p168 := eq_true p168
                  replace q168 := eq_true q168
                  have p169 : 0 ≤ ((ji11) : Int) := of_decide_eq_true (by first | (with_reducible assumption) | assumption)
                  have q169 : (ji11) < (l1.length : Int) := of_decide_eq_true (by first | (with_reducible assumption) | assumption)
                  obtain ⟨ad169, e169, hx169_0⟩ := Kd.at_int HR1.out (ji11) p169 q169
                  cases e169
                  replace p169 := eq_true p169
                  replace q169 := eq_true q169
                  go_enter Try.func28, Try.ntmps28
                  go_wp2
                  repeat (go_quiet (fail); try go_wp2)
                  go_ret
                  exact ⟨by first | rfl | (simp; done) | (simp only [← hji11] <;> (first | rfl | simp)) | (simp [*]; done), by repeat (first | exact Drawn0.refl _ | apply Drawn0.step)⟩
                · rw [if_neg c14] at H
                  have c14b0 : ((rd l1 (ji11)) == 20) = false := beq_eq_false_iff_ne.mpr c14
                  have c14b1 : ((rd l1 (ji11)) != 20) = true := bne_iff_ne.mpr c14
                  by_cases c15 : (rd l1 (ji11)) = 21
                  · rw [if_pos c15] at H
                    have c15b0 : ((rd l1 (ji11)) == 21) = true := beq_iff_eq.mpr c15
                    have c15b1 : ((rd l1 (ji11)) != 21) = false := bne_eq_false_iff_eq.mpr c15
                    clear c15
                    obtain rfl := Option.some.inj H
                    have p168 : 0 ≤ (a4 : Int) := of_decide_eq_true (by first | (with_reducible assumption) | assumption)
                    have q168 : a4 < (l0.length : Int) := of_decide_eq_true (by first | (with_reducible assumption) | assumption)
                    obtain ⟨ad168, e168, hx168_0⟩ := Kd.at_int HR0.out a4 p168 q168
                    cases e168
                    replace p168 := eq_true p168
                    replace q168 := eq_true q168
                    have p169 : 0 ≤ ((ji11) : Int) := of_decide_eq_true (by first | (with_reducible assumption) | assumption)
                    have q169 : (ji11) < (l1.length : Int) := of_decide_eq_true (by first | (with_reducible assumption) | assumption)
                    obtain ⟨ad169, e169, hx169_0⟩ := Kd.at_int HR1.out (ji11) p169 q169
                    cases e169
                    replace p169 := eq_true p169
                    replace q169 := eq_true q169
                    go_enter Try.func28, Try.ntmps28
                    go_wp2
                    repeat (go_quiet (fail); try go_wp2)
                    go_ret
                    exact ⟨by first | rfl | (simp; done) | (simp only [← hji11] <;> (first | rfl | simp)) | (simp [*]; done), by repeat (first | exact Drawn0.refl _ | apply Drawn0.step)⟩
                  · rw [if_neg c15] at H
                    have c15b0 : ((rd l1 (ji11)) == 21) = false := beq_eq_false_iff_ne.mpr c15
                    have c15b1 : ((rd l1 (ji11)) != 21) = true := bne_iff_ne.mpr c15
                    by_cases c16 : (rd l1 (ji11)) = 22
                    · rw [if_pos c16] at H
                      have c16b0 : ((rd l1 (ji11)) == 22) = true := beq_iff_eq.mpr c16
                      have c16b1 : ((rd l1 (ji11)) != 22) = false := bne_eq_false_iff_eq.mpr c16
                      clear c16
                      obtain rfl := Option.some.inj H
                      have p168 : 0 ≤ (a4 : Int) := of_decide_eq_true (by first | (with_reducible assumption) | assumption)
                      have q168 : a4 < (l0.length : Int) := of_decide_eq_true (by first | (with_reducible assumption) | assumption)
                      obtain ⟨ad168, e168, hx168_0⟩ := Kd.at_int HR0.out a4 p168 q168
                      cases e168
                      replace p168 := eq_true p168
                      replace q168 := eq_true q168
                      have p169 : 0 ≤ ((ji11) : Int) := of_decide_eq_true (by first | (with_reducible assumption) | assumption)
                      have q169 : (ji11) < (l1.length : Int) := of_decide_eq_true (by first | (with_reducible assumption) | assumption)
                      obtain ⟨ad169, e169, hx169_0⟩ := Kd.at_int HR1.out (ji11) p169 q169
                      cases e169
                      replace p169 := eq_true p169
                      replace q169 := eq_true q169
                      go_enter Try.func28, Try.ntmps28
                      go_wp2
                      repeat (go_quiet (fail); try go_wp2)
                      go_ret
                      exact ⟨by first | rfl | (simp; done) | (simp only [← hji11] <;> (first | rfl | simp)) | (simp [*]; done), by repeat (first | exact Drawn0.refl _ | apply Drawn0.step)⟩
                    · rw [if_neg c16] at H
                      have c16b0 : ((rd l1 (ji11)) == 22) = false := beq_eq_false_iff_ne.mpr c16
                      have c16b1 : ((rd l1 (ji11)) != 22) = true := bne_iff_ne.mpr c16
                      by_cases c17 : (rd l1 (ji11)) = 23
                      · rw [if_pos c17] at H
                        have c17b0 : ((rd l1 (ji11)) == 23) = true := beq_iff_eq.mpr c17
                        have c17b1 : ((rd l1 (ji11)) != 23) = false := bne_eq_false_iff_eq.mpr c17
                        clear c17
                        obtain rfl := Option.some.inj H
                        have p168 : 0 ≤ (a4 : Int) := of_decide_eq_true (by first | (with_reducible assumption) | assumption)
                        have q168 : a4 < (l0.length : Int) := of_decide_eq_true (by first | (with_reducible assumption) | assumption)
                        obtain ⟨ad168, e168, hx168_0⟩ := Kd.at_int HR0.out a4 p168 q168
                        cases e168
                        replace p168 := eq_true p168
                        replace q168 := eq_true q168
                        have p169 : 0 ≤ ((ji11) : Int) := of_decide_eq_true (by first | (with_reducible assumption) | assumption)
                        have q169 : (ji11) < (l1.length : Int) := of_decide_eq_true (by first | (with_reducible assumption) | assumption)
                        obtain ⟨ad169, e169, hx169_0⟩ := Kd.at_int HR1.out (ji11) p169 q169
                        cases e169
                        replace p169 := eq_true p169
                        replace q169 := eq_true q169
                        go_enter Try.func28, Try.ntmps28
                        go_wp2
                        repeat (go_quiet (fail); try go_wp2)
                        go_ret
                        exact ⟨by first | rfl | (simp; done) | (simp only [← hji11] <;> (first | rfl | simp)) | (simp [*]; done), by repeat (first | exact Drawn0.refl _ | apply Drawn0.step)⟩
                      · rw [if_neg c17] at H
                        have c17b0 : ((rd l1 (ji11)) == 23) = false := beq_eq_false_iff_ne.mpr c17
                        have c17b1 : ((rd l1 (ji11)) != 23) = true := bne_iff_ne.mpr c17
                        obtain rfl := Option.some.inj H
                        have p168 : 0 ≤ (a4 : Int) := of_decide_eq_true (by first | (with_reducible assumption) | assumption)
                        have q168 : a4 < (l0.length : Int) := of_decide_eq_true (by first | (with_reducible assumption) | assumption)
                        obtain ⟨ad168, e168, hx168_0⟩ := Kd.at_int HR0.out a4 p168 q168
                        cases e168
                        replace p168 := eq_true p168
                        replace q168 := eq_true q168
                        have p169 : 0 ≤ ((ji11) : Int) := of_decide_eq_true (by first | (with_reducible assumption) | assumption)
                        have q169 : (ji11) < (l1.length : Int) := of_decide_eq_true (by first | (with_reducible assumption) | assumption)
                        obtain ⟨ad169, e169, hx169_0⟩ := Kd.at_int HR1.out (ji11) p169 q169
                        cases e169
                        replace p169 := eq_true p169
                        replace q169 := eq_true q169
                        go_enter Try.func28, Try.ntmps28
                        go_wp2
                        repeat (go_quiet (fail); try go_wp2)
                        go_ret
                        exact ⟨by first | rfl | (simp; done) | (simp only [← hji11] <;> (first | rfl | simp)) | (simp [*]; done), by repeat (first | exact Drawn0.refl _ | apply Drawn0.step)⟩
              · rw [if_neg c13] at H
                exact absurd H (by simp)
            · rw [if_neg c12] at H
              exact absurd H (by simp)
        · rw [if_neg c9] at H
          have c9b0 : ((rd l0 a4) == 9) = false := beq_eq_false_iff_ne.mpr c9
          have c9b1 : ((rd l0 a4) != 9) = true := bne_iff_ne.mpr c9
          obtain rfl := Option.some.inj H
          have p168 : 0 ≤ (a4 : Int) := of_decide_eq_true (by first | (with_reducible assumption) | assumption)
          have q168 : a4 < (l0.length : Int) := of_decide_eq_true (by first | (with_reducible assumption) | assumption)
          obtain ⟨ad168, e168, hx168_0⟩ := Kd.at_int HR0.out a4 p168 q168
          cases e168
          replace p168 := eq_true p168
          replace q168 := eq_true q168
          go_enter Try.func28, Try.ntmps28
          go_wp2
          repeat (go_quiet (fail); try go_wp2)
          go_ret
          exact ⟨by first | rfl | (simp; done) | (simp [*]; done), by repeat (first | exact Drawn0.refl _ | apply Drawn0.step)⟩
      · rw [if_neg c8] at H
        have c8b0 : (a3 == 1) = false := beq_eq_false_iff_ne.mpr c8
        have c8b1 : (a3 != 1) = true := bne_iff_ne.mpr c8
        by_cases c18 : a3 = 2
        · rw [if_pos c18] at H
          have c18b0 : (a3 == 2) = true := beq_iff_eq.mpr c18
          have c18b1 : (a3 != 2) = false := bne_eq_false_iff_eq.mpr c18
          clear c18
          by_cases c19 : (rd l0 a4) = 4
          · rw [if_pos c19] at H
            have c19b0 : ((rd l0 a4) == 4) = true := beq_iff_eq.mpr c19
            have c19b1 : ((rd l0 a4) != 4) = false := bne_eq_false_iff_eq.mpr c19
            clear c19
            replace H := Option.bind_eq_some_iff.mp H
            obtain ⟨t170, A200, H⟩ := H
            replace H : (if t170 = 3 then (some 7) else (some (rd l0 a4))) = some r := H
            have A20 := Aside0.mk A200
            clear A200
            by_cases c21 : t170 = 3
            · rw [if_pos c21] at H
              have c21b0 : (t170 == 3) = true := beq_iff_eq.mpr c21
              have c21b1 : (t170 != 3) = false := bne_eq_false_iff_eq.mpr c21
              clear c21
              obtain rfl := Option.some.inj H
              have p168 : 0 ≤ (a4 : Int) := of_decide_eq_true (by first | (with_reducible assumption) | assumption)
              have q168 : a4 < (l0.length : Int) := of_decide_eq_true (by first | (with_reducible assumption) | assumption)
              obtain ⟨ad168, e168, hx168_0⟩ := Kd.at_int HR0.out a4 p168 q168
              cases e168
              replace p168 := eq_true p168
              replace q168 := eq_true q168
              go_enter Try.func28, Try.ntmps28
              go_wp2_with (first | (go_at_call 34; (with_reducible refine (colophonref09_strong.calls k _ _ l0 a2 a4 t170 _ ?side1 ?side2 A20.out).mono ?_); (case side1 => repeat (first | exact HR0.out | (with_reducible refine Kd.C_alloc ?_ _) | (with_reducible refine Kd.C_drewN ?_ _) | (with_reducible refine Kd.C_drew ?_))); (case side2 => exact HC0.out); rintro e w' ⟨rfl, ⟨nd, rfl⟩⟩; (try first | exact ⟨rfl, _, World.drewN_drewN _ _ _⟩ | exact ⟨rfl, _, Eq.trans (World.drewN_drewN _ _ _) (congrArg (World.drewN _) (Nat.add_assoc _ _ _))⟩)))
              repeat (go_quiet (first | (go_at_call 34; (with_reducible refine (colophonref09_strong.calls k _ _ l0 a2 a4 t170 _ ?side1 ?side2 A20.out).mono ?_); (case side1 => repeat (first | exact HR0.out | (with_reducible refine Kd.C_alloc ?_ _) | (with_reducible refine Kd.C_drewN ?_ _) | (with_reducible refine Kd.C_drew ?_))); (case side2 => exact HC0.out); rintro e w' ⟨rfl, ⟨nd, rfl⟩⟩; (try first | exact ⟨rfl, _, World.drewN_drewN _ _ _⟩ | exact ⟨rfl, _, Eq.trans (World.drewN_drewN _ _ _) (congrArg (World.drewN _) (Nat.add_assoc _ _ _))⟩))); try go_wp2_with (first | (go_at_call 34; (with_reducible refine (colophonref09_strong.calls k _ _ l0 a2 a4 t170 _ ?side1 ?side2 A20.out).mono ?_); (case side1 => repeat (first | exact HR0.out | (with_reducible refine Kd.C_alloc ?_ _) | (with_reducible refine Kd.C_drewN ?_ _) | (with_reducible refine Kd.C_drew ?_))); (case side2 => exact HC0.out); rintro e w' ⟨rfl, ⟨nd, rfl⟩⟩; (try first | exact ⟨rfl, _, World.drewN_drewN _ _ _⟩ | exact ⟨rfl, _, Eq.trans (World.drewN_drewN _ _ _) (congrArg (World.drewN _) (Nat.add_assoc _ _ _))⟩))))
              go_ret
              exact ⟨by first | rfl | (simp; done) | (simp [*]; done), by repeat (first | exact Drawn0.refl _ | apply Drawn0.step)⟩
            · rw [if_neg c21] at H
              have c21b0 : (t170 == 3) = false := beq_eq_false_iff_ne.mpr c21
              have c21b1 : (t170 != 3) = true := bne_iff_ne.mpr c21
              obtain rfl := Option.some.inj H
              have p168 : 0 ≤ (a4 : Int) := of_decide_eq_true (by first | (with_reducible assumption) | assumption)
              have q168 : a4 < (l0.length : Int) := of_decide_eq_true (by first | (with_reducible assumption) | assumption)
              obtain ⟨ad168, e168, hx168_0⟩ := Kd.at_int HR0.out a4 p168 q168
              cases e168
              replace p168 := eq_true p168
              replace q168 := eq_true q168
              go_enter Try.func28, Try.ntmps28
              go_wp2_with (first | (go_at_call 34; (with_reducible refine (colophonref09_strong.calls k _ _ l0 a2 a4 t170 _ ?side1 ?side2 A20.out).mono ?_); (case side1 => repeat (first | exact HR0.out | (with_reducible refine Kd.C_alloc ?_ _) | (with_reducible refine Kd.C_drewN ?_ _) | (with_reducible refine Kd.C_drew ?_))); (case side2 => exact HC0.out); rintro e w' ⟨rfl, ⟨nd, rfl⟩⟩; (try first | exact ⟨rfl, _, World.drewN_drewN _ _ _⟩ | exact ⟨rfl, _, Eq.trans (World.drewN_drewN _ _ _) (congrArg (World.drewN _) (Nat.add_assoc _ _ _))⟩)))
              repeat (go_quiet (first | (go_at_call 34; (with_reducible refine (colophonref09_strong.calls k _ _ l0 a2 a4 t170 _ ?side1 ?side2 A20.out).mono ?_); (case side1 => repeat (first | exact HR0.out | (with_reducible refine Kd.C_alloc ?_ _) | (with_reducible refine Kd.C_drewN ?_ _) | (with_reducible refine Kd.C_drew ?_))); (case side2 => exact HC0.out); rintro e w' ⟨rfl, ⟨nd, rfl⟩⟩; (try first | exact ⟨rfl, _, World.drewN_drewN _ _ _⟩ | exact ⟨rfl, _, Eq.trans (World.drewN_drewN _ _ _) (congrArg (World.drewN _) (Nat.add_assoc _ _ _))⟩))); try go_wp2_with (first | (go_at_call 34; (with_reducible refine (colophonref09_strong.calls k _ _ l0 a2 a4 t170 _ ?side1 ?side2 A20.out).mono ?_); (case side1 => repeat (first | exact HR0.out | (with_reducible refine Kd.C_alloc ?_ _) | (with_reducible refine Kd.C_drewN ?_ _) | (with_reducible refine Kd.C_drew ?_))); (case side2 => exact HC0.out); rintro e w' ⟨rfl, ⟨nd, rfl⟩⟩; (try first | exact ⟨rfl, _, World.drewN_drewN _ _ _⟩ | exact ⟨rfl, _, Eq.trans (World.drewN_drewN _ _ _) (congrArg (World.drewN _) (Nat.add_assoc _ _ _))⟩))))
              go_ret
              exact ⟨by first | rfl | (simp; done) | (simp [*]; done), by repeat (first | exact Drawn0.refl _ | apply Drawn0.step)⟩
          · rw [if_neg c19] at H
            have c19b0 : ((rd l0 a4) == 4) = false := beq_eq_false_iff_ne.mpr c19
            have c19b1 : ((rd l0 a4) != 4) = true := bne_iff_ne.mpr c19
            obtain rfl := Option.some.inj H
            have p168 : 0 ≤ (a4 : Int) := of_decide_eq_true (by first | (with_reducible assumption) | assumption)
            have q168 : a4 < (l0.length : Int) := of_decide_eq_true (by first | (with_reducible assumption) | assumption)
            obtain ⟨ad168, e168, hx168_0⟩ := Kd.at_int HR0.out a4 p168 q168
            cases e168
            replace p168 := eq_true p168
            replace q168 := eq_true q168
            go_enter Try.func28, Try.ntmps28
            go_wp2
            repeat (go_quiet (fail); try go_wp2)
            go_ret
            exact ⟨by first | rfl | (simp; done) | (simp [*]; done), by repeat (first | exact Drawn0.refl _ | apply Drawn0.step)⟩
        · rw [if_neg c18] at H
          have c18b0 : (a3 == 2) = false := beq_eq_false_iff_ne.mpr c18
          have c18b1 : (a3 != 2) = true := bne_iff_ne.mpr c18
          by_cases c22 : a3 = 3
          · rw [if_pos c22] at H
            have c22b0 : (a3 == 3) = true := beq_iff_eq.mpr c22
            have c22b1 : (a3 != 3) = false := bne_eq_false_iff_eq.mpr c22
            clear c22
            by_cases c23 : (rd l0 a4) = 3
            · rw [if_pos c23] at H
              have c23b0 : ((rd l0 a4) == 3) = true := beq_iff_eq.mpr c23
              have c23b1 : ((rd l0 a4) != 3) = false := bne_eq_false_iff_eq.mpr c23
              clear c23
              obtain rfl := Option.some.inj H
              have p168 : 0 ≤ (a4 : Int) := of_decide_eq_true (by first | (with_reducible assumption) | assumption)
              have q168 : a4 < (l0.length : Int) := of_decide_eq_true (by first | (with_reducible assumption) | assumption)
              obtain ⟨ad168, e168, hx168_0⟩ := Kd.at_int HR0.out a4 p168 q168
              cases e168
              replace p168 := eq_true p168
              replace q168 := eq_true q168
              go_enter Try.func28, Try.ntmps28
              go_wp2
              repeat (go_quiet (fail); try go_wp2)
              go_ret
              exact ⟨by first | rfl | (simp; done) | (simp [*]; done), by repeat (first | exact Drawn0.refl _ | apply Drawn0.step)⟩
            · rw [if_neg c23] at H
              have c23b0 : ((rd l0 a4) == 3) = false := beq_eq_false_iff_ne.mpr c23
              have c23b1 : ((rd l0 a4) != 3) = true := bne_iff_ne.mpr c23
              obtain rfl := Option.some.inj H
              have p168 : 0 ≤ (a4 : Int) := of_decide_eq_true (by first | (with_reducible assumption) | assumption)
              have q168 : a4 < (l0.length : Int) := of_decide_eq_true (by first | (with_reducible assumption) | assumption)
              obtain ⟨ad168, e168, hx168_0⟩ := Kd.at_int HR0.out a4 p168 q168
              cases e168
              replace p168 := eq_true p168
              replace q168 := eq_true q168
              go_enter Try.func28, Try.ntmps28
              go_wp2
              repeat (go_quiet (fail); try go_wp2)
              go_ret
              exact ⟨by first | rfl | (simp; done) | (simp [*]; done), by repeat (first | exact Drawn0.refl _ | apply Drawn0.step)⟩
          · rw [if_neg c22] at H
            have c22b0 : (a3 == 3) = false := beq_eq_false_iff_ne.mpr c22
            have c22b1 : (a3 != 3) = true := bne_iff_ne.mpr c22
            by_cases c24 : a3 = 4
            · rw [if_pos c24] at H
              have c24b0 : (a3 == 4) = true := beq_iff_eq.mpr c24
              have c24b1 : (a3 != 4) = false := bne_eq_false_iff_eq.mpr c24
              clear c24
              have HC25 := Aside0.mk H
              clear H
              have p168 : 0 ≤ (a4 : Int) := of_decide_eq_true (by first | (with_reducible assumption) | assumption)
              have q168 : a4 < (l0.length : Int) := of_decide_eq_true (by first | (with_reducible assumption) | assumption)
              obtain ⟨ad168, e168, hx168_0⟩ := Kd.at_int HR0.out a4 p168 q168
              cases e168
              replace p168 := eq_true p168
              replace q168 := eq_true q168
              go_enter Try.func28, Try.ntmps28
              go_upto_region 19 with (fail)
              repeat (go_quiet (fail); go_upto_region 19 with (fail))
              go_cut [84] (fun v84 wc => ∃ (kq : Nat) (x84_24 : Bool), v84 = .bool x84_24 ∧ Aside0 (colophonref09_one.j0 kq l0 a4 (rd l0 a4) x84_24 = some r) ∧ Aside0 (kq ≤ k) ∧ Drawn0 w wc)
              case first =>
                have H := HC25.out
                clear HC25
                by_cases c26 : a4 > 0
                · rw [if_pos c26] at H
                  have c26b0 : decide (0 < a4) = true := decide_eq_true c26
                  clear c26
                  (first | rw [c26b0] | (simp only [i64_w, i32_w]; rw [c26b0]) | skip)
                  by_cases c27 : (wrap64 (a4 + 1)) < (l0.length : Int)
                  · rw [if_pos c27] at H
                    have c27b0 : decide ((wrap64 (a4 + 1)) < (l0.length : Int)) = true := decide_eq_true c27
                    clear c27
                    obtain ⟨ji28, hji28⟩ : ∃ j_ : Int, (wrap64 (a4 - 1)) = j_ := ⟨_, rfl⟩
                    replace H : (if 0 ≤ (ji28) then (if (ji28) < (l1.length : Int) then (if 0 ≤ (wrap64 (a4 + 1)) then (colophonref09_one.j0 k l0 a4 (rd l0 a4) ((rd l1 (ji28)) == (rd l0 (wrap64 (a4 + 1))))) else (none)) else (none)) else (none)) = some r := by first | (rw [hji28] at H; exact H) | (simp only [hji28] at H ⊢; exact H)
                    have hji28w : (IntKind.i64.wrap (a4 - 1)) = ji28 := (i64_w _).trans hji28
                    by_cases c29 : 0 ≤ (ji28)
                    · rw [if_pos c29] at H
                      have c29b0 : decide (0 ≤ (ji28)) = true := decide_eq_true c29
                      clear c29
                      by_cases c30 : (ji28) < (l1.length : Int)
                      · rw [if_pos c30] at H
                        have c30b0 : decide ((ji28) < (l1.length : Int)) = true := decide_eq_true c30
                        clear c30
                        obtain ⟨ji31, hji31⟩ : ∃ j_ : Int, (wrap64 (a4 + 1)) = j_ := ⟨_, rfl⟩
                        replace H : (if 0 ≤ (ji31) then (colophonref09_one.j0 k l0 a4 (rd l0 a4) ((rd l1 (ji28)) == (rd l0 (ji31)))) else (none)) = some r := by first | (rw [hji31] at H; exact H) | (simp only [hji31] at H ⊢; exact H)
                        (try rw [hji31] at c27b0)
                        have hji31w : (IntKind.i64.wrap (a4 + 1)) = ji31 := (i64_w _).trans hji31
                        by_cases c32 : 0 ≤ (ji31)
                        · rw [if_pos c32] at H
                          have c32b0 : decide (0 ≤ (ji31)) = true := decide_eq_true c32
                          clear c32
                          have H' := Aside0.mk H
                          clear H
                          have p171 : 0 ≤ ((ji28) : Int) := of_decide_eq_true (by first | (with_reducible assumption) | assumption)
                          have q171 : (ji28) < (l1.length : Int) := of_decide_eq_true (by first | (with_reducible assumption) | assumption)
                          obtain ⟨ad171, e171, hx171_0⟩ := Kd.at_int HR1.out (ji28) p171 q171
                          cases e171
                          replace p171 := eq_true p171
                          replace q171 := eq_true q171
                          have p172 : 0 ≤ ((ji31) : Int) := of_decide_eq_true (by first | (with_reducible assumption) | assumption)
                          have q172 : (ji31) < (l0.length : Int) := of_decide_eq_true (by first | (with_reducible assumption) | assumption)
                          obtain ⟨ad172, e172, hx172_0⟩ := Kd.at_int HR0.out (ji31) p172 q172
                          obtain rfl : ad168 = ad172 := (by injection e172)
                          replace p172 := eq_true p172
                          replace q172 := eq_true q172
                          go_wp2
                          repeat (go_quiet (fail); try go_wp2)
                          go_meet
                          case rel => exact ⟨_, (((rd l1 (ji28)) == (rd l0 (ji31)))), (by first | rfl | (simp; done) | (simp only [← hji28, ← hji31] <;> (first | rfl | simp)) | (simp [*]; done)), H', ⟨by first | omega | exact Nat.le_refl _⟩, by repeat (first | exact Drawn0.refl _ | apply Drawn0.step)⟩
                        · rw [if_neg c32] at H
                          exact absurd H (by simp)
                      · rw [if_neg c30] at H
                        exact absurd H (by simp)
                    · rw [if_neg c29] at H
                      exact absurd H (by simp)
                  · rw [if_neg c27] at H
                    have c27b0 : decide ((wrap64 (a4 + 1)) < (l0.length : Int)) = false := decide_eq_false c27
                    clear c27
                    have H' := Aside0.mk H
                    clear H
                    go_wp2
                    repeat (go_quiet (fail); try go_wp2)
                    go_meet
                    case rel => exact ⟨_, (false), (by first | rfl | (simp; done) | (simp [*]; done)), H', ⟨by first | omega | exact Nat.le_refl _⟩, by repeat (first | exact Drawn0.refl _ | apply Drawn0.step)⟩
                · rw [if_neg c26] at H
                  have c26b0 : decide (0 < a4) = false := decide_eq_false c26
                  clear c26
                  (first | rw [c26b0] | (simp only [i64_w, i32_w]; rw [c26b0]) | skip)
                  have H' := Aside0.mk H
                  clear H
                  go_wp2
                  repeat (go_quiet (fail); try go_wp2)
                  go_meet
                  case rel => exact ⟨_, (false), (by first | rfl | (simp; done) | (simp [*]; done)), H', ⟨by first | omega | exact Nat.le_refl _⟩, by repeat (first | exact Drawn0.refl _ | apply Drawn0.step)⟩
              case rest =>
                clear HC25
                try clear c1
                try clear p1
                try clear q1
                try clear hx1
                try clear c2
                try clear p2
                try clear c3
                try clear c6
                try clear c6b0
                try clear p6
                try clear c7
                try clear c7b0
                try clear c8
                try clear c8b0
                try clear c8b1
                try clear c9
                try clear c9b0
                try clear c9b1
                try clear c10
                try clear c10b0
                try clear c10b1
                try clear c12
                try clear c12b0
                try clear c13
                try clear c13b0
                try clear c14
                try clear c14b0
                try clear c14b1
                try clear c15
                try clear c15b0
                try clear c15b1
                try clear c16
                try clear c16b0
                try clear c16b1
                try clear p16
                try clear q16
                try clear hx16
                try clear c17
                try clear c17b0
                try clear c17b1
                try clear p17
                try clear q17
                try clear hx17
                try clear c18
                try clear c18b0
                try clear c18b1
                try clear c19
                try clear c19b0
                try clear c19b1
                try clear c21
                try clear c21b0
                try clear c21b1
                try clear c22
                try clear c22b0
                try clear c22b1
                try clear c23
                try clear c23b0
                try clear c23b1
                try clear c24
                try clear c24b0
                try clear c24b1
                try clear c26
                try clear c26b0
                try clear c27
                try clear c27b0
                try clear c28
                try clear c29
                try clear c29b0
                try clear c30
                try clear c30b0
                try clear c32
                try clear c32b0
                try clear hx168_0
                try clear hx169_0
                try clear hx171_0
                try clear hx172_0
                try clear p168
                try clear p169
                try clear p171
                try clear p172
                try clear q168
                try clear q169
                try clear q171
                try clear q172
                obtain ⟨kq, x84_24, rfl, HA, HJ24, ⟨mc24, rfl⟩⟩ := hcut
                cases kq with
                | zero => exact absurd HA.out (by simp [colophonref09_one.j0])
                | succ kj24 =>
                  have H := HA.out
                  clear HA
                  simp only [colophonref09_one.j0] at H
                  by_cases c33 : x84_24 = true
                  · subst c33
                    have H1 : (if (rd l0 a4) = 5 then (if 0 ≤ (wrap64 (a4 + 1)) then (if (wrap64 (a4 + 1)) < (l0.length : Int) then (if (rd l0 (wrap64 (a4 + 1))) = 4 then (some (rd l0 (wrap64 (a4 + 1)))) else (if (rd l0 a4) = 8 then (if (rd l0 (wrap64 (a4 + 1))) = 7 then (some (rd l0 (wrap64 (a4 + 1)))) else (some (rd l0 a4))) else (some (rd l0 a4)))) else (none)) else (none)) else (if (rd l0 a4) = 8 then (if 0 ≤ (wrap64 (a4 + 1)) then (if (wrap64 (a4 + 1)) < (l0.length : Int) then (if (rd l0 (wrap64 (a4 + 1))) = 4 then (some (rd l0 (wrap64 (a4 + 1)))) else (if (rd l0 (wrap64 (a4 + 1))) = 7 then (some (rd l0 (wrap64 (a4 + 1)))) else (some (rd l0 a4)))) else (none)) else (none)) else (some (rd l0 a4)))) = some r := by rw [if_pos rfl] at H; exact H
                    clear H
                    have H := H1
                    clear H1
                    by_cases c34 : (rd l0 a4) = 5
                    · rw [if_pos c34] at H
                      have c34b0 : ((rd l0 a4) == 5) = true := beq_iff_eq.mpr c34
                      have c34b1 : ((rd l0 a4) != 5) = false := bne_eq_false_iff_eq.mpr c34
                      clear c34
                      obtain ⟨ji35, hji35⟩ : ∃ j_ : Int, (wrap64 (a4 + 1)) = j_ := ⟨_, rfl⟩
                      replace H : (if 0 ≤ (ji35) then (if (ji35) < (l0.length : Int) then (if (rd l0 (ji35)) = 4 then (some (rd l0 (ji35))) else (if (rd l0 a4) = 8 then (if (rd l0 (ji35)) = 7 then (some (rd l0 (ji35))) else (some (rd l0 a4))) else (some (rd l0 a4)))) else (none)) else (none)) = some r := by first | (rw [hji35] at H; exact H) | (simp only [hji35] at H ⊢; exact H)
                      have hji35w : (IntKind.i64.wrap (a4 + 1)) = ji35 := (i64_w _).trans hji35
                      by_cases c36 : 0 ≤ (ji35)
                      · rw [if_pos c36] at H
                        have c36b0 : decide (0 ≤ (ji35)) = true := decide_eq_true c36
                        clear c36
                        by_cases c37 : (ji35) < (l0.length : Int)
                        · rw [if_pos c37] at H
                          have c37b0 : decide ((ji35) < (l0.length : Int)) = true := decide_eq_true c37
                          clear c37
                          by_cases c38 : (rd l0 (ji35)) = 4
                          · rw [if_pos c38] at H
                            have c38b0 : ((rd l0 (ji35)) == 4) = true := beq_iff_eq.mpr c38
                            have c38b1 : ((rd l0 (ji35)) != 4) = false := bne_eq_false_iff_eq.mpr c38
                            clear c38
                            obtain rfl := Option.some.inj H
                            have p173 : 0 ≤ ((ji35) : Int) := of_decide_eq_true (by first | (with_reducible assumption) | assumption)
                            have q173 : (ji35) < (l0.length : Int) := of_decide_eq_true (by first | (with_reducible assumption) | assumption)
                            obtain ⟨ad173, e173, hx173_0⟩ := Kd.at_int HR0.out (ji35) p173 q173
                            obtain rfl : ad168 = ad173 := (by injection e173)
                            replace p173 := eq_true p173
                            replace q173 := eq_true q173
                            have p174 : 0 ≤ ((ji35) : Int) := of_decide_eq_true (by first | (with_reducible assumption) | assumption)
                            have q174 : (ji35) < (l0.length : Int) := of_decide_eq_true (by first | (with_reducible assumption) | assumption)
                            obtain ⟨ad174, e174, hx174_0⟩ := Kd.at_int HR0.out (ji35) p174 q174
                            obtain rfl : ad168 = ad174 := (by injection e174)
                            replace p174 := eq_true p174
                            replace q174 := eq_true q174
                            go_wp2
                            repeat (go_quiet (fail); try go_wp2)
                            go_ret
                            exact ⟨by first | rfl | (simp; done) | (simp only [← hji35] <;> (first | rfl | simp)) | (simp [*]; done), by repeat (first | exact Drawn0.refl _ | apply Drawn0.step)⟩
                          · rw [if_neg c38] at H
                            have c38b0 : ((rd l0 (ji35)) == 4) = false := beq_eq_false_iff_ne.mpr c38
                            have c38b1 : ((rd l0 (ji35)) != 4) = true := bne_iff_ne.mpr c38
                            by_cases c39 : (rd l0 a4) = 8
                            · rw [if_pos c39] at H
                              have c39b0 : ((rd l0 a4) == 8) = true := beq_iff_eq.mpr c39
                              have c39b1 : ((rd l0 a4) != 8) = false := bne_eq_false_iff_eq.mpr c39
                              clear c39
                              by_cases c40 : (rd l0 (ji35)) = 7
                              · rw [if_pos c40] at H
                                have c40b0 : ((rd l0 (ji35)) == 7) = true := beq_iff_eq.mpr c40
                                have c40b1 : ((rd l0 (ji35)) != 7) = false := bne_eq_false_iff_eq.mpr c40
                                clear c40
                                obtain rfl := Option.some.inj H
                                have p173 : 0 ≤ ((ji35) : Int) := of_decide_eq_true (by first | (with_reducible assumption) | assumption)
                                have q173 : (ji35) < (l0.length : Int) := of_decide_eq_true (by first | (with_reducible assumption) | assumption)
                                obtain ⟨ad173, e173, hx173_0⟩ := Kd.at_int HR0.out (ji35) p173 q173
                                obtain rfl : ad168 = ad173 := (by injection e173)
                                replace p173 := eq_true p173
                                replace q173 := eq_true q173
                                have p175 : 0 ≤ ((ji35) : Int) := of_decide_eq_true (by first | (with_reducible assumption) | assumption)
                                have q175 : (ji35) < (l0.length : Int) := of_decide_eq_true (by first | (with_reducible assumption) | assumption)
                                obtain ⟨ad175, e175, hx175_0⟩ := Kd.at_int HR0.out (ji35) p175 q175
                                obtain rfl : ad168 = ad175 := (by injection e175)
                                replace p175 := eq_true p175
                                replace q175 := eq_true q175
                                have p176 : 0 ≤ ((ji35) : Int) := of_decide_eq_true (by first | (with_reducible assumption) | assumption)
                                have q176 : (ji35) < (l0.length : Int) := of_decide_eq_true (by first | (with_reducible assumption) | assumption)
                                obtain ⟨ad176, e176, hx176_0⟩ := Kd.at_int HR0.out (ji35) p176 q176
                                obtain rfl : ad168 = ad176 := (by injection e176)
                                replace p176 := eq_true p176
                                replace q176 := eq_true q176
                                have p177 : 0 ≤ ((ji35) : Int) := of_decide_eq_true (by first | (with_reducible assumption) | assumption)
                                have q177 : (ji35) < (l0.length : Int) := of_decide_eq_true (by first | (with_reducible assumption) | assumption)
                                obtain ⟨ad177, e177, hx177_0⟩ := Kd.at_int HR0.out (ji35) p177 q177
                                obtain rfl : ad168 = ad177 := (by injection e177)
                                replace p177 := eq_true p177
                                replace q177 := eq_true q177
                                go_wp2
                                repeat (go_quiet (fail); try go_wp2)
                                go_ret
                                exact ⟨by first | rfl | (simp; done) | (simp only [← hji35] <;> (first | rfl | simp)) | (simp [*]; done), by repeat (first | exact Drawn0.refl _ | apply Drawn0.step)⟩
                              · rw [if_neg c40] at H
                                have c40b0 : ((rd l0 (ji35)) == 7) = false := beq_eq_false_iff_ne.mpr c40
                                have c40b1 : ((rd l0 (ji35)) != 7) = true := bne_iff_ne.mpr c40
                                obtain rfl := Option.some.inj H
                                have p173 : 0 ≤ ((ji35) : Int) := of_decide_eq_true (by first | (with_reducible assumption) | assumption)
                                have q173 : (ji35) < (l0.length : Int) := of_decide_eq_true (by first | (with_reducible assumption) | assumption)
                                obtain ⟨ad173, e173, hx173_0⟩ := Kd.at_int HR0.out (ji35) p173 q173
                                obtain rfl : ad168 = ad173 := (by injection e173)
                                replace p173 := eq_true p173
                                replace q173 := eq_true q173
                                have p175 : 0 ≤ ((ji35) : Int) := of_decide_eq_true (by first | (with_reducible assumption) | assumption)
                                have q175 : (ji35) < (l0.length : Int) := of_decide_eq_true (by first | (with_reducible assumption) | assumption)
                                obtain ⟨ad175, e175, hx175_0⟩ := Kd.at_int HR0.out (ji35) p175 q175
                                obtain rfl : ad168 = ad175 := (by injection e175)
                                replace p175 := eq_true p175
                                replace q175 := eq_true q175
                                have p176 : 0 ≤ ((ji35) : Int) := of_decide_eq_true (by first | (with_reducible assumption) | assumption)
                                have q176 : (ji35) < (l0.length : Int) := of_decide_eq_true (by first | (with_reducible assumption) | assumption)
                                obtain ⟨ad176, e176, hx176_0⟩ := Kd.at_int HR0.out (ji35) p176 q176
                                obtain rfl : ad168 = ad176 := (by injection e176)
                                replace p176 := eq_true p176
                                replace q176 := eq_true q176
                                go_wp2
                                repeat (go_quiet (fail); try go_wp2)
                                go_ret
                                exact ⟨by first | rfl | (simp; done) | (simp only [← hji35] <;> (first | rfl | simp)) | (simp [*]; done), by repeat (first | exact Drawn0.refl _ | apply Drawn0.step)⟩
                            · rw [if_neg c39] at H
                              have c39b0 : ((rd l0 a4) == 8) = false := beq_eq_false_iff_ne.mpr c39
                              have c39b1 : ((rd l0 a4) != 8) = true := bne_iff_ne.mpr c39
                              obtain rfl := Option.some.inj H
                              have p173 : 0 ≤ ((ji35) : Int) := of_decide_eq_true (by first | (with_reducible assumption) | assumption)
                              have q173 : (ji35) < (l0.length : Int) := of_decide_eq_true (by first | (with_reducible assumption) | assumption)
                              obtain ⟨ad173, e173, hx173_0⟩ := Kd.at_int HR0.out (ji35) p173 q173
                              obtain rfl : ad168 = ad173 := (by injection e173)
                              replace p173 := eq_true p173
                              replace q173 := eq_true q173
                              go_wp2
                              repeat (go_quiet (fail); try go_wp2)
                              go_ret
                              exact ⟨by first | rfl | (simp; done) | (simp only [← hji35] <;> (first | rfl | simp)) | (simp [*]; done), by repeat (first | exact Drawn0.refl _ | apply Drawn0.step)⟩
                        · rw [if_neg c37] at H
                          exact absurd H (by simp)
                      · rw [if_neg c36] at H
                        exact absurd H (by simp)
                    · rw [if_neg c34] at H
                      have c34b0 : ((rd l0 a4) == 5) = false := beq_eq_false_iff_ne.mpr c34
                      have c34b1 : ((rd l0 a4) != 5) = true := bne_iff_ne.mpr c34
                      by_cases c41 : (rd l0 a4) = 8
                      · rw [if_pos c41] at H
                        have c41b0 : ((rd l0 a4) == 8) = true := beq_iff_eq.mpr c41
                        have c41b1 : ((rd l0 a4) != 8) = false := bne_eq_false_iff_eq.mpr c41
                        clear c41
                        obtain ⟨ji42, hji42⟩ : ∃ j_ : Int, (wrap64 (a4 + 1)) = j_ := ⟨_, rfl⟩
                        replace H : (if 0 ≤ (ji42) then (if (ji42) < (l0.length : Int) then (if (rd l0 (ji42)) = 4 then (some (rd l0 (ji42))) else (if (rd l0 (ji42)) = 7 then (some (rd l0 (ji42))) else (some (rd l0 a4)))) else (none)) else (none)) = some r := by first | (rw [hji42] at H; exact H) | (simp only [hji42] at H ⊢; exact H)
                        have hji42w : (IntKind.i64.wrap (a4 + 1)) = ji42 := (i64_w _).trans hji42
                        by_cases c43 : 0 ≤ (ji42)
                        · rw [if_pos c43] at H
                          have c43b0 : decide (0 ≤ (ji42)) = true := decide_eq_true c43
                          clear c43
                          by_cases c44 : (ji42) < (l0.length : Int)
                          · rw [if_pos c44] at H
                            have c44b0 : decide ((ji42) < (l0.length : Int)) = true := decide_eq_true c44
                            clear c44
                            by_cases c45 : (rd l0 (ji42)) = 4
                            · rw [if_pos c45] at H
                              have c45b0 : ((rd l0 (ji42)) == 4) = true := beq_iff_eq.mpr c45
                              have c45b1 : ((rd l0 (ji42)) != 4) = false := bne_eq_false_iff_eq.mpr c45
                              clear c45
                              obtain rfl := Option.some.inj H
                              have p178 : 0 ≤ ((ji42) : Int) := of_decide_eq_true (by first | (with_reducible assumption) | assumption)
                              have q178 : (ji42) < (l0.length : Int) := of_decide_eq_true (by first | (with_reducible assumption) | assumption)
                              obtain ⟨ad178, e178, hx178_0⟩ := Kd.at_int HR0.out (ji42) p178 q178
                              obtain rfl : ad168 = ad178 := (by injection e178)
                              replace p178 := eq_true p178
                              replace q178 := eq_true q178
                              have p179 : 0 ≤ ((ji42) : Int) := of_decide_eq_true (by first | (with_reducible assumption) | assumption)
                              have q179 : (ji42) < (l0.length : Int) := of_decide_eq_true (by first | (with_reducible assumption) | assumption)
                              obtain ⟨ad179, e179, hx179_0⟩ := Kd.at_int HR0.out (ji42) p179 q179
                              obtain rfl : ad168 = ad179 := (by injection e179)
                              replace p179 := eq_true p179
                              replace q179 := eq_true q179
                              go_wp2
                              repeat (go_quiet (fail); try go_wp2)
                              go_ret
                              exact ⟨by first | rfl | (simp; done) | (simp only [← hji42] <;> (first | rfl | simp)) | (simp [*]; done), by repeat (first | exact Drawn0.refl _ | apply Drawn0.step)⟩
                            · rw [if_neg c45] at H
                              have c45b0 : ((rd l0 (ji42)) == 4) = false := beq_eq_false_iff_ne.mpr c45
                              have c45b1 : ((rd l0 (ji42)) != 4) = true := bne_iff_ne.mpr c45
                              by_cases c46 : (rd l0 (ji42)) = 7
                              · rw [if_pos c46] at H
                                have c46b0 : ((rd l0 (ji42)) == 7) = true := beq_iff_eq.mpr c46
                                have c46b1 : ((rd l0 (ji42)) != 7) = false := bne_eq_false_iff_eq.mpr c46
                                clear c46
                                obtain rfl := Option.some.inj H
                                have p178 : 0 ≤ ((ji42) : Int) := of_decide_eq_true (by first | (with_reducible assumption) | assumption)
                                have q178 : (ji42) < (l0.length : Int) := of_decide_eq_true (by first | (with_reducible assumption) | assumption)
                                obtain ⟨ad178, e178, hx178_0⟩ := Kd.at_int HR0.out (ji42) p178 q178
                                obtain rfl : ad168 = ad178 := (by injection e178)
                                replace p178 := eq_true p178
                                replace q178 := eq_true q178
                                have p180 : 0 ≤ ((ji42) : Int) := of_decide_eq_true (by first | (with_reducible assumption) | assumption)
                                have q180 : (ji42) < (l0.length : Int) := of_decide_eq_true (by first | (with_reducible assumption) | assumption)
                                obtain ⟨ad180, e180, hx180_0⟩ := Kd.at_int HR0.out (ji42) p180 q180
                                obtain rfl : ad168 = ad180 := (by injection e180)
                                replace p180 := eq_true p180
                                replace q180 := eq_true q180
                                have p181 : 0 ≤ ((ji42) : Int) := of_decide_eq_true (by first | (with_reducible assumption) | assumption)
                                have q181 : (ji42) < (l0.length : Int) := of_decide_eq_true (by first | (with_reducible assumption) | assumption)
                                obtain ⟨ad181, e181, hx181_0⟩ := Kd.at_int HR0.out (ji42) p181 q181
                                obtain rfl : ad168 = ad181 := (by injection e181)
                                replace p181 := eq_true p181
                                replace q181 := eq_true q181
                                go_wp2
                                repeat (go_quiet (fail); try go_wp2)
                                go_ret
                                exact ⟨by first | rfl | (simp; done) | (simp only [← hji42] <;> (first | rfl | simp)) | (simp [*]; done), by repeat (first | exact Drawn0.refl _ | apply Drawn0.step)⟩
                              · rw [if_neg c46] at H
                                have c46b0 : ((rd l0 (ji42)) == 7) = false := beq_eq_false_iff_ne.mpr c46
                                have c46b1 : ((rd l0 (ji42)) != 7) = true := bne_iff_ne.mpr c46
                                obtain rfl := Option.some.inj H
                                have p178 : 0 ≤ ((ji42) : Int) := of_decide_eq_true (by first | (with_reducible assumption) | assumption)
                                have q178 : (ji42) < (l0.length : Int) := of_decide_eq_true (by first | (with_reducible assumption) | assumption)
                                obtain ⟨ad178, e178, hx178_0⟩ := Kd.at_int HR0.out (ji42) p178 q178
                                obtain rfl : ad168 = ad178 := (by injection e178)
                                replace p178 := eq_true p178
                                replace q178 := eq_true q178
                                have p180 : 0 ≤ ((ji42) : Int) := of_decide_eq_true (by first | (with_reducible assumption) | assumption)
                                have q180 : (ji42) < (l0.length : Int) := of_decide_eq_true (by first | (with_reducible assumption) | assumption)
                                obtain ⟨ad180, e180, hx180_0⟩ := Kd.at_int HR0.out (ji42) p180 q180
                                obtain rfl : ad168 = ad180 := (by injection e180)
                                replace p180 := eq_true p180
                                replace q180 := eq_true q180
                                go_wp2
                                repeat (go_quiet (fail); try go_wp2)
                                go_ret
                                exact ⟨by first | rfl | (simp; done) | (simp only [← hji42] <;> (first | rfl | simp)) | (simp [*]; done), by repeat (first | exact Drawn0.refl _ | apply Drawn0.step)⟩
                          · rw [if_neg c44] at H
                            exact absurd H (by simp)
                        · rw [if_neg c43] at H
                          exact absurd H (by simp)
                      · rw [if_neg c41] at H
                        have c41b0 : ((rd l0 a4) == 8) = false := beq_eq_false_iff_ne.mpr c41
                        have c41b1 : ((rd l0 a4) != 8) = true := bne_iff_ne.mpr c41
                        obtain rfl := Option.some.inj H
                        go_wp2
                        repeat (go_quiet (fail); try go_wp2)
                        go_ret
                        exact ⟨by first | rfl | (simp; done) | (simp [*]; done), by repeat (first | exact Drawn0.refl _ | apply Drawn0.step)⟩
                  · replace c33 := Bool.eq_false_iff.mpr c33
                    subst c33
                    have H1 : (some (rd l0 a4)) = some r := by rw [if_neg (show ¬ (false = true) by decide)] at H; exact H
                    clear H
                    have H := H1
                    clear H1
                    obtain rfl := Option.some.inj H
                    go_wp2
                    repeat (go_quiet (fail); try go_wp2)
                    go_ret
                    exact ⟨by first | rfl | (simp; done) | (simp [*]; done), by repeat (first | exact Drawn0.refl _ | apply Drawn0.step)⟩
            · rw [if_neg c24] at H
              have c24b0 : (a3 == 4) = false := beq_eq_false_iff_ne.mpr c24
              have c24b1 : (a3 != 4) = true := bne_iff_ne.mpr c24
              by_cases c47 : a3 = 5
              · rw [if_pos c47] at H
                have c47b0 : (a3 == 5) = true := beq_iff_eq.mpr c47
                have c47b1 : (a3 != 5) = false := bne_eq_false_iff_eq.mpr c47
                clear c47
                by_cases c48 : (rd l0 a4) = 6
                · rw [if_pos c48] at H
                  have c48b0 : ((rd l0 a4) == 6) = true := beq_iff_eq.mpr c48
                  have c48b1 : ((rd l0 a4) != 6) = false := bne_eq_false_iff_eq.mpr c48
                  clear c48
                  replace H := Option.bind_eq_some_iff.mp H
                  obtain ⟨t182, A490, H⟩ := H
                  replace H : (if t182 = 4 then (some 4) else ((colophonref09_edge.f k l0 a4 1).bind fun t183 => (if t183 = 4 then (some 4) else (some (rd l0 a4))))) = some r := H
                  have A49 := Aside0.mk A490
                  clear A490
                  by_cases c50 : t182 = 4
                  · rw [if_pos c50] at H
                    have c50b0 : (t182 == 4) = true := beq_iff_eq.mpr c50
                    have c50b1 : (t182 != 4) = false := bne_eq_false_iff_eq.mpr c50
                    clear c50
                    obtain rfl := Option.some.inj H
                    have p168 : 0 ≤ (a4 : Int) := of_decide_eq_true (by first | (with_reducible assumption) | assumption)
                    have q168 : a4 < (l0.length : Int) := of_decide_eq_true (by first | (with_reducible assumption) | assumption)
                    obtain ⟨ad168, e168, hx168_0⟩ := Kd.at_int HR0.out a4 p168 q168
                    cases e168
                    replace p168 := eq_true p168
                    replace q168 := eq_true q168
                    go_enter Try.func28, Try.ntmps28
                    go_wp2_with (first | (go_at_call 35; (with_reducible refine (colophonref09_edge.calls k _ _ l0 a4 (-1) t182 _ ?side1 ?side2 A49.out).mono ?_); (case side1 => repeat (first | exact HR0.out | (with_reducible refine Kd.C_alloc ?_ _) | (with_reducible refine Kd.C_drewN ?_ _) | (with_reducible refine Kd.C_drew ?_))); (case side2 => exact HC0.out); rintro e w' ⟨rfl, ⟨nd, rfl⟩⟩; (try first | exact ⟨rfl, _, World.drewN_drewN _ _ _⟩ | exact ⟨rfl, _, Eq.trans (World.drewN_drewN _ _ _) (congrArg (World.drewN _) (Nat.add_assoc _ _ _))⟩)))
                    repeat (go_quiet (first | (go_at_call 35; (with_reducible refine (colophonref09_edge.calls k _ _ l0 a4 (-1) t182 _ ?side1 ?side2 A49.out).mono ?_); (case side1 => repeat (first | exact HR0.out | (with_reducible refine Kd.C_alloc ?_ _) | (with_reducible refine Kd.C_drewN ?_ _) | (with_reducible refine Kd.C_drew ?_))); (case side2 => exact HC0.out); rintro e w' ⟨rfl, ⟨nd, rfl⟩⟩; (try first | exact ⟨rfl, _, World.drewN_drewN _ _ _⟩ | exact ⟨rfl, _, Eq.trans (World.drewN_drewN _ _ _) (congrArg (World.drewN _) (Nat.add_assoc _ _ _))⟩))); try go_wp2_with (first | (go_at_call 35; (with_reducible refine (colophonref09_edge.calls k _ _ l0 a4 (-1) t182 _ ?side1 ?side2 A49.out).mono ?_); (case side1 => repeat (first | exact HR0.out | (with_reducible refine Kd.C_alloc ?_ _) | (with_reducible refine Kd.C_drewN ?_ _) | (with_reducible refine Kd.C_drew ?_))); (case side2 => exact HC0.out); rintro e w' ⟨rfl, ⟨nd, rfl⟩⟩; (try first | exact ⟨rfl, _, World.drewN_drewN _ _ _⟩ | exact ⟨rfl, _, Eq.trans (World.drewN_drewN _ _ _) (congrArg (World.drewN _) (Nat.add_assoc _ _ _))⟩))))
                    go_ret
                    exact ⟨by first | rfl | (simp; done) | (simp [*]; done), by repeat (first | exact Drawn0.refl _ | apply Drawn0.step)⟩
                  · rw [if_neg c50] at H
                    have c50b0 : (t182 == 4) = false := beq_eq_false_iff_ne.mpr c50
                    have c50b1 : (t182 != 4) = true := bne_iff_ne.mpr c50
                    replace H := Option.bind_eq_some_iff.mp H
                    obtain ⟨t183, A510, H⟩ := H
                    replace H : (if t183 = 4 then (some 4) else (some (rd l0 a4))) = some r := H
                    have A51 := Aside0.mk A510
                    clear A510
                    by_cases c52 : t183 = 4
                    · rw [if_pos c52] at H
                      have c52b0 : (t183 == 4) = true := beq_iff_eq.mpr c52
                      have c52b1 : (t183 != 4) = false := bne_eq_false_iff_eq.mpr c52
                      clear c52
                      obtain rfl := Option.some.inj H
                      have p168 : 0 ≤ (a4 : Int) := of_decide_eq_true (by first | (with_reducible assumption) | assumption)
                      have q168 : a4 < (l0.length : Int) := of_decide_eq_true (by first | (with_reducible assumption) | assumption)
                      obtain ⟨ad168, e168, hx168_0⟩ := Kd.at_int HR0.out a4 p168 q168
                      cases e168
                      replace p168 := eq_true p168
                      replace q168 := eq_true q168
                      go_enter Try.func28, Try.ntmps28
                      go_wp2_with (first | (go_at_call 35; (with_reducible refine (colophonref09_edge.calls k _ _ l0 a4 (-1) t182 _ ?side1 ?side2 A49.out).mono ?_); (case side1 => repeat (first | exact HR0.out | (with_reducible refine Kd.C_alloc ?_ _) | (with_reducible refine Kd.C_drewN ?_ _) | (with_reducible refine Kd.C_drew ?_))); (case side2 => exact HC0.out); rintro e w' ⟨rfl, ⟨nd, rfl⟩⟩; (try first | exact ⟨rfl, _, World.drewN_drewN _ _ _⟩ | exact ⟨rfl, _, Eq.trans (World.drewN_drewN _ _ _) (congrArg (World.drewN _) (Nat.add_assoc _ _ _))⟩)) | (go_at_call 35; (with_reducible refine (colophonref09_edge.calls k _ _ l0 a4 1 t183 _ ?side1 ?side2 A51.out).mono ?_); (case side1 => repeat (first | exact HR0.out | (with_reducible refine Kd.C_alloc ?_ _) | (with_reducible refine Kd.C_drewN ?_ _) | (with_reducible refine Kd.C_drew ?_))); (case side2 => exact HC0.out); rintro e w' ⟨rfl, ⟨nd, rfl⟩⟩; (try first | exact ⟨rfl, _, World.drewN_drewN _ _ _⟩ | exact ⟨rfl, _, Eq.trans (World.drewN_drewN _ _ _) (congrArg (World.drewN _) (Nat.add_assoc _ _ _))⟩)))
                      repeat (go_quiet (first | (go_at_call 35; (with_reducible refine (colophonref09_edge.calls k _ _ l0 a4 (-1) t182 _ ?side1 ?side2 A49.out).mono ?_); (case side1 => repeat (first | exact HR0.out | (with_reducible refine Kd.C_alloc ?_ _) | (with_reducible refine Kd.C_drewN ?_ _) | (with_reducible refine Kd.C_drew ?_))); (case side2 => exact HC0.out); rintro e w' ⟨rfl, ⟨nd, rfl⟩⟩; (try first | exact ⟨rfl, _, World.drewN_drewN _ _ _⟩ | exact ⟨rfl, _, Eq.trans (World.drewN_drewN _ _ _) (congrArg (World.drewN _) (Nat.add_assoc _ _ _))⟩)) | (go_at_call 35; (with_reducible refine (colophonref09_edge.calls k _ _ l0 a4 1 t183 _ ?side1 ?side2 A51.out).mono ?_); (case side1 => repeat (first | exact HR0.out | (with_reducible refine Kd.C_alloc ?_ _) | (with_reducible refine Kd.C_drewN ?_ _) | (with_reducible refine Kd.C_drew ?_))); (case side2 => exact HC0.out); rintro e w' ⟨rfl, ⟨nd, rfl⟩⟩; (try first | exact ⟨rfl, _, World.drewN_drewN _ _ _⟩ | exact ⟨rfl, _, Eq.trans (World.drewN_drewN _ _ _) (congrArg (World.drewN _) (Nat.add_assoc _ _ _))⟩))); try go_wp2_with (first | (go_at_call 35; (with_reducible refine (colophonref09_edge.calls k _ _ l0 a4 (-1) t182 _ ?side1 ?side2 A49.out).mono ?_); (case side1 => repeat (first | exact HR0.out | (with_reducible refine Kd.C_alloc ?_ _) | (with_reducible refine Kd.C_drewN ?_ _) | (with_reducible refine Kd.C_drew ?_))); (case side2 => exact HC0.out); rintro e w' ⟨rfl, ⟨nd, rfl⟩⟩; (try first | exact ⟨rfl, _, World.drewN_drewN _ _ _⟩ | exact ⟨rfl, _, Eq.trans (World.drewN_drewN _ _ _) (congrArg (World.drewN _) (Nat.add_assoc _ _ _))⟩)) | (go_at_call 35; (with_reducible refine (colophonref09_edge.calls k _ _ l0 a4 1 t183 _ ?side1 ?side2 A51.out).mono ?_); (case side1 => repeat (first | exact HR0.out | (with_reducible refine Kd.C_alloc ?_ _) | (with_reducible refine Kd.C_drewN ?_ _) | (with_reducible refine Kd.C_drew ?_))); (case side2 => exact HC0.out); rintro e w' ⟨rfl, ⟨nd, rfl⟩⟩; (try first | exact ⟨rfl, _, World.drewN_drewN _ _ _⟩ | exact ⟨rfl, _, Eq.trans (World.drewN_drewN _ _ _) (congrArg (World.drewN _) (Nat.add_assoc _ _ _))⟩))))
                      go_ret
                      exact ⟨by first | rfl | (simp; done) | (simp [*]; done), by repeat (first | exact Drawn0.refl _ | apply Drawn0.step)⟩
                    · rw [if_neg c52] at H
                      have c52b0 : (t183 == 4) = false := beq_eq_false_iff_ne.mpr c52
                      have c52b1 : (t183 != 4) = true := bne_iff_ne.mpr c52
                      obtain rfl := Option.some.inj H
                      have p168 : 0 ≤ (a4 : Int) := of_decide_eq_true (by first | (with_reducible assumption) | assumption)
                      have q168 : a4 < (l0.length : Int) := of_decide_eq_true (by first | (with_reducible assumption) | assumption)
                      obtain ⟨ad168, e168, hx168_0⟩ := Kd.at_int HR0.out a4 p168 q168
                      cases e168
                      replace p168 := eq_true p168
                      replace q168 := eq_true q168
                      go_enter Try.func28, Try.ntmps28
                      go_wp2_with (first | (go_at_call 35; (with_reducible refine (colophonref09_edge.calls k _ _ l0 a4 (-1) t182 _ ?side1 ?side2 A49.out).mono ?_); (case side1 => repeat (first | exact HR0.out | (with_reducible refine Kd.C_alloc ?_ _) | (with_reducible refine Kd.C_drewN ?_ _) | (with_reducible refine Kd.C_drew ?_))); (case side2 => exact HC0.out); rintro e w' ⟨rfl, ⟨nd, rfl⟩⟩; (try first | exact ⟨rfl, _, World.drewN_drewN _ _ _⟩ | exact ⟨rfl, _, Eq.trans (World.drewN_drewN _ _ _) (congrArg (World.drewN _) (Nat.add_assoc _ _ _))⟩)) | (go_at_call 35; (with_reducible refine (colophonref09_edge.calls k _ _ l0 a4 1 t183 _ ?side1 ?side2 A51.out).mono ?_); (case side1 => repeat (first | exact HR0.out | (with_reducible refine Kd.C_alloc ?_ _) | (with_reducible refine Kd.C_drewN ?_ _) | (with_reducible refine Kd.C_drew ?_))); (case side2 => exact HC0.out); rintro e w' ⟨rfl, ⟨nd, rfl⟩⟩; (try first | exact ⟨rfl, _, World.drewN_drewN _ _ _⟩ | exact ⟨rfl, _, Eq.trans (World.drewN_drewN _ _ _) (congrArg (World.drewN _) (Nat.add_assoc _ _ _))⟩)))
                      repeat (go_quiet (first | (go_at_call 35; (with_reducible refine (colophonref09_edge.calls k _ _ l0 a4 (-1) t182 _ ?side1 ?side2 A49.out).mono ?_); (case side1 => repeat (first | exact HR0.out | (with_reducible refine Kd.C_alloc ?_ _) | (with_reducible refine Kd.C_drewN ?_ _) | (with_reducible refine Kd.C_drew ?_))); (case side2 => exact HC0.out); rintro e w' ⟨rfl, ⟨nd, rfl⟩⟩; (try first | exact ⟨rfl, _, World.drewN_drewN _ _ _⟩ | exact ⟨rfl, _, Eq.trans (World.drewN_drewN _ _ _) (congrArg (World.drewN _) (Nat.add_assoc _ _ _))⟩)) | (go_at_call 35; (with_reducible refine (colophonref09_edge.calls k _ _ l0 a4 1 t183 _ ?side1 ?side2 A51.out).mono ?_); (case side1 => repeat (first | exact HR0.out | (with_reducible refine Kd.C_alloc ?_ _) | (with_reducible refine Kd.C_drewN ?_ _) | (with_reducible refine Kd.C_drew ?_))); (case side2 => exact HC0.out); rintro e w' ⟨rfl, ⟨nd, rfl⟩⟩; (try first | exact ⟨rfl, _, World.drewN_drewN _ _ _⟩ | exact ⟨rfl, _, Eq.trans (World.drewN_drewN _ _ _) (congrArg (World.drewN _) (Nat.add_assoc _ _ _))⟩))); try go_wp2_with (first | (go_at_call 35; (with_reducible refine (colophonref09_edge.calls k _ _ l0 a4 (-1) t182 _ ?side1 ?side2 A49.out).mono ?_); (case side1 => repeat (first | exact HR0.out | (with_reducible refine Kd.C_alloc ?_ _) | (with_reducible refine Kd.C_drewN ?_ _) | (with_reducible refine Kd.C_drew ?_))); (case side2 => exact HC0.out); rintro e w' ⟨rfl, ⟨nd, rfl⟩⟩; (try first | exact ⟨rfl, _, World.drewN_drewN _ _ _⟩ | exact ⟨rfl, _, Eq.trans (World.drewN_drewN _ _ _) (congrArg (World.drewN _) (Nat.add_assoc _ _ _))⟩)) | (go_at_call 35; (with_reducible refine (colophonref09_edge.calls k _ _ l0 a4 1 t183 _ ?side1 ?side2 A51.out).mono ?_); (case side1 => repeat (first | exact HR0.out | (with_reducible refine Kd.C_alloc ?_ _) | (with_reducible refine Kd.C_drewN ?_ _) | (with_reducible refine Kd.C_drew ?_))); (case side2 => exact HC0.out); rintro e w' ⟨rfl, ⟨nd, rfl⟩⟩; (try first | exact ⟨rfl, _, World.drewN_drewN _ _ _⟩ | exact ⟨rfl, _, Eq.trans (World.drewN_drewN _ _ _) (congrArg (World.drewN _) (Nat.add_assoc _ _ _))⟩))))
                      go_ret
                      exact ⟨by first | rfl | (simp; done) | (simp [*]; done), by repeat (first | exact Drawn0.refl _ | apply Drawn0.step)⟩
                · rw [if_neg c48] at H
                  have c48b0 : ((rd l0 a4) == 6) = false := beq_eq_false_iff_ne.mpr c48
                  have c48b1 : ((rd l0 a4) != 6) = true := bne_iff_ne.mpr c48
                  obtain rfl := Option.some.inj H
                  have p168 : 0 ≤ (a4 : Int) := of_decide_eq_true (by first | (with_reducible assumption) | assumption)
                  have q168 : a4 < (l0.length : Int) := of_decide_eq_true (by first | (with_reducible assumption) | assumption)
                  obtain ⟨ad168, e168, hx168_0⟩ := Kd.at_int HR0.out a4 p168 q168
                  cases e168
                  replace p168 := eq_true p168
                  replace q168 := eq_true q168
                  go_enter Try.func28, Try.ntmps28
                  go_wp2
                  repeat (go_quiet (fail); try go_wp2)
                  go_ret
                  exact ⟨by first | rfl | (simp; done) | (simp [*]; done), by repeat (first | exact Drawn0.refl _ | apply Drawn0.step)⟩
              · rw [if_neg c47] at H
                have c47b0 : (a3 == 5) = false := beq_eq_false_iff_ne.mpr c47
                have c47b1 : (a3 != 5) = true := bne_iff_ne.mpr c47
                by_cases c53 : a3 = 6
                · rw [if_pos c53] at H
                  have c53b0 : (a3 == 6) = true := beq_iff_eq.mpr c53
                  have c53b1 : (a3 != 6) = false := bne_eq_false_iff_eq.mpr c53
                  clear c53
                  by_cases c54 : (rd l0 a4) = 5
                  · rw [if_pos c54] at H
                    have c54b0 : ((rd l0 a4) == 5) = true := beq_iff_eq.mpr c54
                    have c54b1 : ((rd l0 a4) != 5) = false := bne_eq_false_iff_eq.mpr c54
                    clear c54
                    obtain rfl := Option.some.inj H
                    have p168 : 0 ≤ (a4 : Int) := of_decide_eq_true (by first | (with_reducible assumption) | assumption)
                    have q168 : a4 < (l0.length : Int) := of_decide_eq_true (by first | (with_reducible assumption) | assumption)
                    obtain ⟨ad168, e168, hx168_0⟩ := Kd.at_int HR0.out a4 p168 q168
                    cases e168
                    replace p168 := eq_true p168
                    replace q168 := eq_true q168
                    go_enter Try.func28, Try.ntmps28
                    go_wp2
                    repeat (go_quiet (fail); try go_wp2)
                    go_ret
                    exact ⟨by first | rfl | (simp; done) | (simp [*]; done), by repeat (first | exact Drawn0.refl _ | apply Drawn0.step)⟩
                  · rw [if_neg c54] at H
                    have c54b0 : ((rd l0 a4) == 5) = false := beq_eq_false_iff_ne.mpr c54
                    have c54b1 : ((rd l0 a4) != 5) = true := bne_iff_ne.mpr c54
                    by_cases c55 : (rd l0 a4) = 6
                    · rw [if_pos c55] at H
                      have c55b0 : ((rd l0 a4) == 6) = true := beq_iff_eq.mpr c55
                      have c55b1 : ((rd l0 a4) != 6) = false := bne_eq_false_iff_eq.mpr c55
                      clear c55
                      obtain rfl := Option.some.inj H
                      have p168 : 0 ≤ (a4 : Int) := of_decide_eq_true (by first | (with_reducible assumption) | assumption)
                      have q168 : a4 < (l0.length : Int) := of_decide_eq_true (by first | (with_reducible assumption) | assumption)
                      obtain ⟨ad168, e168, hx168_0⟩ := Kd.at_int HR0.out a4 p168 q168
                      cases e168
                      replace p168 := eq_true p168
                      replace q168 := eq_true q168
                      go_enter Try.func28, Try.ntmps28
                      go_wp2
                      repeat (go_quiet (fail); try go_wp2)
                      go_ret
                      exact ⟨by first | rfl | (simp; done) | (simp [*]; done), by repeat (first | exact Drawn0.refl _ | apply Drawn0.step)⟩
                    · rw [if_neg c55] at H
                      have c55b0 : ((rd l0 a4) == 6) = false := beq_eq_false_iff_ne.mpr c55
                      have c55b1 : ((rd l0 a4) != 6) = true := bne_iff_ne.mpr c55
                      by_cases c56 : (rd l0 a4) = 8
                      · rw [if_pos c56] at H
                        have c56b0 : ((rd l0 a4) == 8) = true := beq_iff_eq.mpr c56
                        have c56b1 : ((rd l0 a4) != 8) = false := bne_eq_false_iff_eq.mpr c56
                        clear c56
                        obtain rfl := Option.some.inj H
                        have p168 : 0 ≤ (a4 : Int) := of_decide_eq_true (by first | (with_reducible assumption) | assumption)
                        have q168 : a4 < (l0.length : Int) := of_decide_eq_true (by first | (with_reducible assumption) | assumption)
                        obtain ⟨ad168, e168, hx168_0⟩ := Kd.at_int HR0.out a4 p168 q168
                        cases e168
                        replace p168 := eq_true p168
                        replace q168 := eq_true q168
                        go_enter Try.func28, Try.ntmps28
                        go_wp2
                        repeat (go_quiet (fail); try go_wp2)
                        go_ret
                        exact ⟨by first | rfl | (simp; done) | (simp [*]; done), by repeat (first | exact Drawn0.refl _ | apply Drawn0.step)⟩
                      · rw [if_neg c56] at H
                        have c56b0 : ((rd l0 a4) == 8) = false := beq_eq_false_iff_ne.mpr c56
                        have c56b1 : ((rd l0 a4) != 8) = true := bne_iff_ne.mpr c56
                        obtain rfl := Option.some.inj H
                        have p168 : 0 ≤ (a4 : Int) := of_decide_eq_true (by first | (with_reducible assumption) | assumption)
                        have q168 : a4 < (l0.length : Int) := of_decide_eq_true (by first | (with_reducible assumption) | assumption)
                        obtain ⟨ad168, e168, hx168_0⟩ := Kd.at_int HR0.out a4 p168 q168
                        cases e168
                        replace p168 := eq_true p168
                        replace q168 := eq_true q168
                        go_enter Try.func28, Try.ntmps28
                        go_wp2
                        repeat (go_quiet (fail); try go_wp2)
                        go_ret
                        exact ⟨by first | rfl | (simp; done) | (simp [*]; done), by repeat (first | exact Drawn0.refl _ | apply Drawn0.step)⟩
                · rw [if_neg c53] at H
                  have c53b0 : (a3 == 6) = false := beq_eq_false_iff_ne.mpr c53
                  have c53b1 : (a3 != 6) = true := bne_iff_ne.mpr c53
                  by_cases c57 : a3 = 7
                  · rw [if_pos c57] at H
                    have c57b0 : (a3 == 7) = true := beq_iff_eq.mpr c57
                    have c57b1 : (a3 != 7) = false := bne_eq_false_iff_eq.mpr c57
                    clear c57
                    by_cases c58 : (rd l0 a4) = 4
                    · rw [if_pos c58] at H
                      have c58b0 : ((rd l0 a4) == 4) = true := beq_iff_eq.mpr c58
                      have c58b1 : ((rd l0 a4) != 4) = false := bne_eq_false_iff_eq.mpr c58
                      clear c58
                      replace H := Option.bind_eq_some_iff.mp H
                      obtain ⟨t184, A590, H⟩ := H
                      replace H : (if t184 = 1 then (some 1) else (some (rd l0 a4))) = some r := H
                      have A59 := Aside0.mk A590
                      clear A590
                      by_cases c60 : t184 = 1
                      · rw [if_pos c60] at H
                        have c60b0 : (t184 == 1) = true := beq_iff_eq.mpr c60
                        have c60b1 : (t184 != 1) = false := bne_eq_false_iff_eq.mpr c60
                        clear c60
                        obtain rfl := Option.some.inj H
                        have p168 : 0 ≤ (a4 : Int) := of_decide_eq_true (by first | (with_reducible assumption) | assumption)
                        have q168 : a4 < (l0.length : Int) := of_decide_eq_true (by first | (with_reducible assumption) | assumption)
                        obtain ⟨ad168, e168, hx168_0⟩ := Kd.at_int HR0.out a4 p168 q168
                        cases e168
                        replace p168 := eq_true p168
                        replace q168 := eq_true q168
                        go_enter Try.func28, Try.ntmps28
                        go_wp2_with (first | (go_at_call 34; (with_reducible refine (colophonref09_strong.calls k _ _ l0 a2 a4 t184 _ ?side1 ?side2 A59.out).mono ?_); (case side1 => repeat (first | exact HR0.out | (with_reducible refine Kd.C_alloc ?_ _) | (with_reducible refine Kd.C_drewN ?_ _) | (with_reducible refine Kd.C_drew ?_))); (case side2 => exact HC0.out); rintro e w' ⟨rfl, ⟨nd, rfl⟩⟩; (try first | exact ⟨rfl, _, World.drewN_drewN _ _ _⟩ | exact ⟨rfl, _, Eq.trans (World.drewN_drewN _ _ _) (congrArg (World.drewN _) (Nat.add_assoc _ _ _))⟩)))
                        repeat (go_quiet (first | (go_at_call 34; (with_reducible refine (colophonref09_strong.calls k _ _ l0 a2 a4 t184 _ ?side1 ?side2 A59.out).mono ?_); (case side1 => repeat (first | exact HR0.out | (with_reducible refine Kd.C_alloc ?_ _) | (with_reducible refine Kd.C_drewN ?_ _) | (with_reducible refine Kd.C_drew ?_))); (case side2 => exact HC0.out); rintro e w' ⟨rfl, ⟨nd, rfl⟩⟩; (try first | exact ⟨rfl, _, World.drewN_drewN _ _ _⟩ | exact ⟨rfl, _, Eq.trans (World.drewN_drewN _ _ _) (congrArg (World.drewN _) (Nat.add_assoc _ _ _))⟩))); try go_wp2_with (first | (go_at_call 34; (with_reducible refine (colophonref09_strong.calls k _ _ l0 a2 a4 t184 _ ?side1 ?side2 A59.out).mono ?_); (case side1 => repeat (first | exact HR0.out | (with_reducible refine Kd.C_alloc ?_ _) | (with_reducible refine Kd.C_drewN ?_ _) | (with_reducible refine Kd.C_drew ?_))); (case side2 => exact HC0.out); rintro e w' ⟨rfl, ⟨nd, rfl⟩⟩; (try first | exact ⟨rfl, _, World.drewN_drewN _ _ _⟩ | exact ⟨rfl, _, Eq.trans (World.drewN_drewN _ _ _) (congrArg (World.drewN _) (Nat.add_assoc _ _ _))⟩))))
                        go_ret
                        exact ⟨by first | rfl | (simp; done) | (simp [*]; done), by repeat (first | exact Drawn0.refl _ | apply Drawn0.step)⟩
                      · rw [if_neg c60] at H
                        have c60b0 : (t184 == 1) = false := beq_eq_false_iff_ne.mpr c60
                        have c60b1 : (t184 != 1) = true := bne_iff_ne.mpr c60
                        obtain rfl := Option.some.inj H
                        have p168 : 0 ≤ (a4 : Int) := of_decide_eq_true (by first | (with_reducible assumption) | assumption)
                        have q168 : a4 < (l0.length : Int) := of_decide_eq_true (by first | (with_reducible assumption) | assumption)
                        obtain ⟨ad168, e168, hx168_0⟩ := Kd.at_int HR0.out a4 p168 q168
                        cases e168
                        replace p168 := eq_true p168
                        replace q168 := eq_true q168
                        go_enter Try.func28, Try.ntmps28
                        go_wp2_with (first | (go_at_call 34; (with_reducible refine (colophonref09_strong.calls k _ _ l0 a2 a4 t184 _ ?side1 ?side2 A59.out).mono ?_); (case side1 => repeat (first | exact HR0.out | (with_reducible refine Kd.C_alloc ?_ _) | (with_reducible refine Kd.C_drewN ?_ _) | (with_reducible refine Kd.C_drew ?_))); (case side2 => exact HC0.out); rintro e w' ⟨rfl, ⟨nd, rfl⟩⟩; (try first | exact ⟨rfl, _, World.drewN_drewN _ _ _⟩ | exact ⟨rfl, _, Eq.trans (World.drewN_drewN _ _ _) (congrArg (World.drewN _) (Nat.add_assoc _ _ _))⟩)))
                        repeat (go_quiet (first | (go_at_call 34; (with_reducible refine (colophonref09_strong.calls k _ _ l0 a2 a4 t184 _ ?side1 ?side2 A59.out).mono ?_); (case side1 => repeat (first | exact HR0.out | (with_reducible refine Kd.C_alloc ?_ _) | (with_reducible refine Kd.C_drewN ?_ _) | (with_reducible refine Kd.C_drew ?_))); (case side2 => exact HC0.out); rintro e w' ⟨rfl, ⟨nd, rfl⟩⟩; (try first | exact ⟨rfl, _, World.drewN_drewN _ _ _⟩ | exact ⟨rfl, _, Eq.trans (World.drewN_drewN _ _ _) (congrArg (World.drewN _) (Nat.add_assoc _ _ _))⟩))); try go_wp2_with (first | (go_at_call 34; (with_reducible refine (colophonref09_strong.calls k _ _ l0 a2 a4 t184 _ ?side1 ?side2 A59.out).mono ?_); (case side1 => repeat (first | exact HR0.out | (with_reducible refine Kd.C_alloc ?_ _) | (with_reducible refine Kd.C_drewN ?_ _) | (with_reducible refine Kd.C_drew ?_))); (case side2 => exact HC0.out); rintro e w' ⟨rfl, ⟨nd, rfl⟩⟩; (try first | exact ⟨rfl, _, World.drewN_drewN _ _ _⟩ | exact ⟨rfl, _, Eq.trans (World.drewN_drewN _ _ _) (congrArg (World.drewN _) (Nat.add_assoc _ _ _))⟩))))
                        go_ret
                        exact ⟨by first | rfl | (simp; done) | (simp [*]; done), by repeat (first | exact Drawn0.refl _ | apply Drawn0.step)⟩
                    · rw [if_neg c58] at H
                      have c58b0 : ((rd l0 a4) == 4) = false := beq_eq_false_iff_ne.mpr c58
                      have c58b1 : ((rd l0 a4) != 4) = true := bne_iff_ne.mpr c58
                      obtain rfl := Option.some.inj H
                      have p168 : 0 ≤ (a4 : Int) := of_decide_eq_true (by first | (with_reducible assumption) | assumption)
                      have q168 : a4 < (l0.length : Int) := of_decide_eq_true (by first | (with_reducible assumption) | assumption)
                      obtain ⟨ad168, e168, hx168_0⟩ := Kd.at_int HR0.out a4 p168 q168
                      cases e168
                      replace p168 := eq_true p168
                      replace q168 := eq_true q168
                      go_enter Try.func28, Try.ntmps28
                      go_wp2
                      repeat (go_quiet (fail); try go_wp2)
                      go_ret
                      exact ⟨by first | rfl | (simp; done) | (simp [*]; done), by repeat (first | exact Drawn0.refl _ | apply Drawn0.step)⟩
                  · rw [if_neg c57] at H
                    have c57b0 : (a3 == 7) = false := beq_eq_false_iff_ne.mpr c57
                    have c57b1 : (a3 != 7) = true := bne_iff_ne.mpr c57
                    obtain rfl := Option.some.inj H
                    have p168 : 0 ≤ (a4 : Int) := of_decide_eq_true (by first | (with_reducible assumption) | assumption)
                    have q168 : a4 < (l0.length : Int) := of_decide_eq_true (by first | (with_reducible assumption) | assumption)
                    obtain ⟨ad168, e168, hx168_0⟩ := Kd.at_int HR0.out a4 p168 q168
                    cases e168
                    replace p168 := eq_true p168
                    replace q168 := eq_true q168
                    go_enter Try.func28, Try.ntmps28
                    go_wp2
                    repeat (go_quiet (fail); try go_wp2)
                    go_ret
                    exact ⟨by first | rfl | (simp; done) | (simp [*]; done), by repeat (first | exact Drawn0.refl _ | apply Drawn0.step)⟩
    · rw [if_neg c7] at H
      exact absurd H (by simp)
  · rw [if_neg c6] at H
    exact absurd H (by simp)

end Go.Proofs.Ytckajjoliiefdaa.PW
