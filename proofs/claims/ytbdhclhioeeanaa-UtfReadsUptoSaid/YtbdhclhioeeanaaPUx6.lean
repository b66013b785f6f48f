-- written by xp.py (a program of this session's own) over the kit's printer; not trusted: Lean checks it
import Derived.Test.YtbdhclhioeeanaaPUx0
import Derived.Test.YtbdhclhioeeanaaPUx5
namespace Go.Proofs.Ytbdhclhioeeanaa.PU
open Go.RowKit Go.Proofs.YtbdhclhioeeanaaW.PrintWords Go.Proofs.YtbdhclhioeeanaaW.PrintLast Go.Proofs.YtbdhclhioeeanaaW.PrintMore
attribute [local go_sem] max2_int min2_int max_two min_two max_three min_three max_four min_four   -- for this text's walks alone
set_option linter.unusedVariables false
set_option linter.unusedSimpArgs false

/-! ### utf_Cut: function 17 -/
def utf_Cut.l0 : Nat → List Int → Int → Int → Option (Int)
  | 0, _, _, _ => none
  | k + 1, x0, x1, x5 => if x5 < (x0.length : Int) then (if 0 ≤ x5 then (if x5 ≤ (x0.length : Int) then ((utf_next.f (x0.drop (x5 : Int).toNat)).bind fun bt183 => (if bt183.2 = 0 then (some x5) else (if bt183.2 > (wrap64 (x1 - x5)) then (some x5) else (utf_Cut.l0 k x0 x1 (wrap64 (x5 + bt183.2)))))) else (none)) else (none)) else (some x5)
def utf_Cut.f (k : Nat) (l0 : List Int) (a1 : Int) : Option (Int) := utf_Cut.l0 k l0 a1 0
theorem utf_Cut.mono_l : ∀ k, (∀ y0 y1 y2, LeO (utf_Cut.l0 k y0 y1 y2) (utf_Cut.l0 (k + 1) y0 y1 y2))
  | 0 => fun _ _ _ r h => by simp [utf_Cut.l0] at h
  | k + 1 => by
    have ih0 := utf_Cut.mono_l k
    · intro y0 y1 y2
      unfold utf_Cut.l0
      repeat' first
      | (with_reducible exact ih0 _ _ _)
      | (with_reducible exact LeO.refl _)
      | (with_reducible exact LeO.none _)
      | (with_reducible refine LeO.ite ?_ ?_)
      | (with_reducible refine LeO.bind ?_ (fun _ => ?_))
      | exact ih0 _ _ _
      | exact LeO.none _
      | refine LeO.ite ?_ ?_
      | refine LeO.bind ?_ (fun _ => ?_)
theorem utf_Cut.mono : ∀ a0 a1 k, LeO (utf_Cut.f k a0 a1) (utf_Cut.f (k + 1) a0 a1) := by
  intro a0 a1 k
  have ih0 := utf_Cut.mono_l k
  unfold utf_Cut.f
  repeat' first
      | (with_reducible exact ih0 _ _ _)
      | (with_reducible exact LeO.refl _)
      | (with_reducible exact LeO.none _)
      | (with_reducible refine LeO.ite ?_ ?_)
      | (with_reducible refine LeO.bind ?_ (fun _ => ?_))
      | exact ih0 _ _ _
      | exact LeO.none _
      | refine LeO.ite ?_ ?_
      | refine LeO.bind ?_ (fun _ => ?_)
set_option maxHeartbeats 8000000 in
set_option maxRecDepth 100000 in
theorem utf_Cut.calls (k : Nat) (A0 : Option Addr) (c0 : Nat) (l0 : List Int) (a1 : Int) (r : Int) (w : World) (hr0 : Kd.C (Kd.int .u8) w A0 l0.length l0) (hc0 : l0.length ≤ c0) (h : utf_Cut.f k l0 a1 = some r) :
    Calls Try.prog 17 #[.slice A0 l0.length c0, .int .i64 a1] w fun e w' => e = .returned (.int .i64 r) ∧ Drawn0 w w' := by
  have HR0 := Aside0.mk hr0
  have HC0 := Aside0.mk hc0
  clear hr0 hc0
  have H : (utf_Cut.l0 k l0 a1 0) = some r := h
  clear h
  have H' := Aside0.mk H
  clear H
  go_enter Try.func17, Try.ntmps17
  go_wp2
  go_loopg [5] k (fun kq v5 w' => ∃ (x5_1 : Int), v5 = .int .i64 x5_1 ∧ Aside0 (utf_Cut.l0 kq l0 a1 x5_1 = some r) ∧ Aside0 (kq ≤ k) ∧ Drawn0 w w')
  case atStart => exact ⟨(0), (by first | rfl | (simp; done) | (simp [*]; done)), H', ⟨Nat.le_refl _⟩, by repeat (first | exact Drawn0.refl _ | apply Drawn0.step)⟩
  case round =>
    clear H'
    try clear c1
    try clear p2
    obtain ⟨x5_1, rfl, HA, HK1, ⟨m1, rfl⟩⟩ := hrel
    cases gk with
    | zero => exact absurd HA.out (by simp [utf_Cut.l0])
    | succ k1 =>
      have H := HA.out
      clear HA
      simp only [utf_Cut.l0] at H
      by_cases c3 : x5_1 < (l0.length : Int)
      · rw [if_pos c3] at H
        have c3b0 : decide (x5_1 < (l0.length : Int)) = true := decide_eq_true c3
        clear c3
        by_cases c4 : 0 ≤ x5_1
        · rw [if_pos c4] at H
          have c4b0 := eq_true c4
          have c4b1 : decide (0 ≤ x5_1) = true := decide_eq_true c4
          clear c4
          by_cases c5 : x5_1 ≤ (l0.length : Int)
          · rw [if_pos c5] at H
            have c5b0 := eq_true c5
            have c5b1 : decide (x5_1 ≤ (l0.length : Int)) = true := decide_eq_true c5
            clear c5
            replace H := Option.bind_eq_some_iff.mp H
            obtain ⟨⟨t183, t184⟩, A60, H⟩ := H
            replace H : (if t184 = 0 then (some x5_1) else (if t184 > (wrap64 (a1 - x5_1)) then (some x5_1) else (utf_Cut.l0 k1 l0 a1 (wrap64 (x5_1 + t184))))) = some r := H
            have A6 := Aside0.mk A60
            clear A60
            by_cases c7 : t184 = 0
            · rw [if_pos c7] at H
              have c7b0 : (t184 == 0) = true := beq_iff_eq.mpr c7
              have c7b1 : (t184 != 0) = false := bne_eq_false_iff_eq.mpr c7
              clear c7
              obtain rfl := Option.some.inj H
              obtain ⟨i08, hi08, _, hsz8, _⟩ := info_parts info5
              obtain ⟨A8, hcut8, hA8, hC8⟩ := print_drop_of (P := Try.prog) (Value.int .u8) 0 22 5 .i64 Try.underlying22 hi08 hsz8 A0 c0 l0 x5_1 (of_decide_eq_true (by first | (with_reducible assumption) | assumption)) (of_decide_eq_true (by first | (with_reducible assumption) | assumption)) HC0.out
              have HR182 := Aside0.mk (Kd.C_of_reads (h1 := fun _ => rfl) (hA8 _ (Kd.reads_of_C HR0.out)))
              have HC182 := Aside0.mk hC8
              clear hA8 hC8 hi08 hsz8
              go_wp2_with (first | ((with_reducible refine gate_callee (f := 24) rfl ?_); refine goesL_ (some 16) rfl rfl Try.func24 (by kernel_rfl) rfl #[.slice A8 (l0.drop (x5_1 : Int).toNat).length (c0 - x5_1.toNat)] rfl (by (try simp only [List.map_toArray, List.map_cons, List.map_nil]); first | done | (rw [show (l0.drop (x5_1 : Int).toNat).length = (l0.length - x5_1.toNat) from List.length_drop] <;> rfl) | rfl | (simp only [List.length_drop, List.length_take]; rfl)) ?_; (with_reducible refine (utf_next.calls _ _ (l0.drop (x5_1 : Int).toNat) t183 t184 _ ?side1 ?side2 A6.out).mono ?_); (case side1 => repeat (first | exact HR182.out | (with_reducible refine Kd.C_alloc ?_ _) | (with_reducible refine Kd.C_drewN ?_ _) | (with_reducible refine Kd.C_drew ?_))); (case side2 => exact HC182.out); rintro e w' ⟨rfl, ⟨nd, rfl⟩⟩; refine ⟨_, rfl, ?_⟩))
              go_ret
              exact ⟨by first | rfl | (simp; done) | (simp [*]; done), by repeat (first | exact Drawn0.refl _ | apply Drawn0.step)⟩
            · rw [if_neg c7] at H
              have c7b0 : (t184 == 0) = false := beq_eq_false_iff_ne.mpr c7
              have c7b1 : (t184 != 0) = true := bne_iff_ne.mpr c7
              by_cases c9 : t184 > (wrap64 (a1 - x5_1))
              · rw [if_pos c9] at H
                have c9b0 : decide ((wrap64 (a1 - x5_1)) < t184) = true := decide_eq_true c9
                clear c9
                obtain rfl := Option.some.inj H
                obtain ⟨i010, hi010, _, hsz10, _⟩ := info_parts info5
                obtain ⟨A10, hcut10, hA10, hC10⟩ := print_drop_of (P := Try.prog) (Value.int .u8) 0 22 5 .i64 Try.underlying22 hi010 hsz10 A0 c0 l0 x5_1 (of_decide_eq_true (by first | (with_reducible assumption) | assumption)) (of_decide_eq_true (by first | (with_reducible assumption) | assumption)) HC0.out
                have HR182 := Aside0.mk (Kd.C_of_reads (h1 := fun _ => rfl) (hA10 _ (Kd.reads_of_C HR0.out)))
                have HC182 := Aside0.mk hC10
                clear hA10 hC10 hi010 hsz10
                go_wp2_with (first | ((with_reducible refine gate_callee (f := 24) rfl ?_); refine goesL_ (some 16) rfl rfl Try.func24 (by kernel_rfl) rfl #[.slice A10 (l0.drop (x5_1 : Int).toNat).length (c0 - x5_1.toNat)] rfl (by (try simp only [List.map_toArray, List.map_cons, List.map_nil]); first | done | (rw [show (l0.drop (x5_1 : Int).toNat).length = (l0.length - x5_1.toNat) from List.length_drop] <;> rfl) | rfl | (simp only [List.length_drop, List.length_take]; rfl)) ?_; (with_reducible refine (utf_next.calls _ _ (l0.drop (x5_1 : Int).toNat) t183 t184 _ ?side1 ?side2 A6.out).mono ?_); (case side1 => repeat (first | exact HR182.out | (with_reducible refine Kd.C_alloc ?_ _) | (with_reducible refine Kd.C_drewN ?_ _) | (with_reducible refine Kd.C_drew ?_))); (case side2 => exact HC182.out); rintro e w' ⟨rfl, ⟨nd, rfl⟩⟩; refine ⟨_, rfl, ?_⟩))
                go_ret
                exact ⟨by first | rfl | (simp; done) | (simp [*]; done), by repeat (first | exact Drawn0.refl _ | apply Drawn0.step)⟩
              · rw [if_neg c9] at H
                have c9b0 : decide ((wrap64 (a1 - x5_1)) < t184) = false := decide_eq_false c9
                clear c9
                have H' := Aside0.mk H
                clear H
                obtain ⟨i011, hi011, _, hsz11, _⟩ := info_parts info5
                obtain ⟨A11, hcut11, hA11, hC11⟩ := print_drop_of (P := Try.prog) (Value.int .u8) 0 22 5 .i64 Try.underlying22 hi011 hsz11 A0 c0 l0 x5_1 (of_decide_eq_true (by first | (with_reducible assumption) | assumption)) (of_decide_eq_true (by first | (with_reducible assumption) | assumption)) HC0.out
                have HR182 := Aside0.mk (Kd.C_of_reads (h1 := fun _ => rfl) (hA11 _ (Kd.reads_of_C HR0.out)))
                have HC182 := Aside0.mk hC11
                clear hA11 hC11 hi011 hsz11
                go_wp2_with (first | ((with_reducible refine gate_callee (f := 24) rfl ?_); refine goesL_ (some 16) rfl rfl Try.func24 (by kernel_rfl) rfl #[.slice A11 (l0.drop (x5_1 : Int).toNat).length (c0 - x5_1.toNat)] rfl (by (try simp only [List.map_toArray, List.map_cons, List.map_nil]); first | done | (rw [show (l0.drop (x5_1 : Int).toNat).length = (l0.length - x5_1.toNat) from List.length_drop] <;> rfl) | rfl | (simp only [List.length_drop, List.length_take]; rfl)) ?_; (with_reducible refine (utf_next.calls _ _ (l0.drop (x5_1 : Int).toNat) t183 t184 _ ?side1 ?side2 A6.out).mono ?_); (case side1 => repeat (first | exact HR182.out | (with_reducible refine Kd.C_alloc ?_ _) | (with_reducible refine Kd.C_drewN ?_ _) | (with_reducible refine Kd.C_drew ?_))); (case side2 => exact HC182.out); rintro e w' ⟨rfl, ⟨nd, rfl⟩⟩; refine ⟨_, rfl, ?_⟩))
                go_roundg k1
                case measure => have := HK1.out; omega
                case rel => exact ⟨(wrap64 (x5_1 + t184)), (by first | rfl | (simp; done) | (simp [*]; done)), H', ⟨by have := HK1.out; omega⟩, by repeat (first | exact Drawn0.refl _ | apply Drawn0.step)⟩
          · rw [if_neg c5] at H
            exact absurd H (by simp)
        · rw [if_neg c4] at H
          exact absurd H (by simp)
      · rw [if_neg c3] at H
        have c3b0 : decide (x5_1 < (l0.length : Int)) = false := decide_eq_false c3
        clear c3
        obtain rfl := Option.some.inj H
        go_wp2
        go_ret
        exact ⟨by first | rfl | (simp; done) | (simp [*]; done), by repeat (first | exact Drawn0.refl _ | apply Drawn0.step)⟩

/-! ### colophonref01_value: function 26 -/
def colophonref01_value.bok (l : List Int) (i : Int) : Prop := 0 ≤ rd l i ∧ rd l i ≤ 255
instance (l : List Int) (i : Int) : Decidable (colophonref01_value.bok l i) := by unfold colophonref01_value.bok; exact inferInstance
/-- The number that a3 bytes from place a on would be. -/
def colophonref01_value.v (l : List Int) (a n : Int) : Int :=
  if n = 1 then rd l a
  else if n = 2 then (rd l a - 192) * 64 + rd l (a + 1) - 128
  else if n = 3 then ((rd l a - 224) * 64 + rd l (a + 1) - 128) * 64 + rd l (a + 2) - 128
  else (((rd l a - 240) * 64 + rd l (a + 1) - 128) * 64 + rd l (a + 2) - 128) * 64 + rd l (a + 3) - 128
def colophonref01_value.f (l0 : List Int) (a1 a2 : Int) : Option Int :=
  if 0 ≤ a1 ∧ 1 ≤ a2 ∧ a2 ≤ 4 ∧ a1 + a2 ≤ (l0.length : Int) ∧ (l0.length : Int) ≤ 9223372036854775807 ∧ ∀ j : Nat, j < a2.toNat → colophonref01_value.bok l0 (a1 + j) then some (colophonref01_value.v l0 a1 a2) else none
set_option maxHeartbeats 2000000 in
set_option maxRecDepth 100000 in
theorem colophonref01_value.case1 (A0 : Option Addr) (c0 : Nat) (l0 : List Int) (a1 : Int) (w : World) (hr0 : Kd.C (Kd.int .u8) w A0 l0.length l0) (h0 : 0 ≤ a1) (h1 : a1 + 1 ≤ (l0.length : Int)) (hb0 : colophonref01_value.bok l0 (a1)) (hm : (l0.length : Int) ≤ 9223372036854775807) :
    Calls Try.prog 26 #[.slice A0 l0.length c0, .int .i64 a1, .int .i64 1] w fun e w' => e = .returned (.int .i32 (colophonref01_value.v l0 a1 1)) ∧ Below w.heap.size w w' := by
  obtain ⟨ad, rfl, hx0⟩ := Kd.at_int hr0 a1 h0 (by omega)
  clear hr0
  obtain ⟨b0l, b0h⟩ := hb0
  have hlt0 := World.block_lt_of_cell? w _ hx0
  have q0 : a1 < (l0.length : Int) := by omega
  have hv : colophonref01_value.v l0 a1 1 = rd l0 a1 := rfl
  rw [hv]
  clear hv
  obtain ⟨x0, e0⟩ : ∃ x, x = rd l0 (a1) := ⟨_, rfl⟩
  rw [← e0] at hx0 b0l b0h
  rw [← e0]
  clear e0
  go_enter Try.func26, Try.ntmps26
  go_wp2
  go_quiet (fail)
  go_wp2
  refine wp_loop_rounds 1 ?_
  repeat any_goals (rw [rounds_succ]; go_wp2)
  go_ret
  exact ⟨rfl, by repeat (first | exact Below.refl _ _ | apply below_alloc | apply pw_below_drewN | apply below_drew1)⟩
set_option maxHeartbeats 2000000 in
set_option maxRecDepth 100000 in
theorem colophonref01_value.case2 (A0 : Option Addr) (c0 : Nat) (l0 : List Int) (a1 : Int) (w : World) (hr0 : Kd.C (Kd.int .u8) w A0 l0.length l0) (h0 : 0 ≤ a1) (h1 : a1 + 2 ≤ (l0.length : Int)) (hb0 : colophonref01_value.bok l0 (a1)) (hb1 : colophonref01_value.bok l0 (a1 + 1)) (hm : (l0.length : Int) ≤ 9223372036854775807) :
    Calls Try.prog 26 #[.slice A0 l0.length c0, .int .i64 a1, .int .i64 2] w fun e w' => e = .returned (.int .i32 (colophonref01_value.v l0 a1 2)) ∧ Below w.heap.size w w' := by
  obtain ⟨ad, rfl, hx0⟩ := Kd.at_int hr0 a1 h0 (by omega)
  obtain ⟨ad', e', hx1⟩ := Kd.at_int hr0 (a1 + 1) (by omega) (by omega)
  injection e' with e'
  subst e'
  clear hr0
  obtain ⟨b0l, b0h⟩ := hb0
  have hlt0 := World.block_lt_of_cell? w _ hx0
  obtain ⟨b1l, b1h⟩ := hb1
  have hlt1 := World.block_lt_of_cell? w _ hx1
  have q0 : a1 < (l0.length : Int) := by omega
  have q1 : 0 ≤ a1 + 1 := by omega
  have r1 : a1 + 1 < (l0.length : Int) := by omega
  have hv : colophonref01_value.v l0 a1 2 = (rd l0 a1 - 192) * 64 + rd l0 (a1 + 1) - 128 := rfl
  rw [hv]
  clear hv
  obtain ⟨x0, e0⟩ : ∃ x, x = rd l0 (a1) := ⟨_, rfl⟩
  rw [← e0] at hx0 b0l b0h
  obtain ⟨x1, e1⟩ : ∃ x, x = rd l0 (a1 + 1) := ⟨_, rfl⟩
  rw [← e1] at hx1 b1l b1h
  rw [← e0, ← e1]
  clear e0 e1
  go_enter Try.func26, Try.ntmps26
  go_wp2
  go_quiet (fail)
  go_wp2
  refine wp_loop_rounds 2 ?_
  repeat any_goals (rw [rounds_succ]; go_wp2)
  go_ret
  exact ⟨rfl, by repeat (first | exact Below.refl _ _ | apply below_alloc | apply pw_below_drewN | apply below_drew1)⟩
set_option maxHeartbeats 2000000 in
set_option maxRecDepth 100000 in
theorem colophonref01_value.case3 (A0 : Option Addr) (c0 : Nat) (l0 : List Int) (a1 : Int) (w : World) (hr0 : Kd.C (Kd.int .u8) w A0 l0.length l0) (h0 : 0 ≤ a1) (h1 : a1 + 3 ≤ (l0.length : Int)) (hb0 : colophonref01_value.bok l0 (a1)) (hb1 : colophonref01_value.bok l0 (a1 + 1)) (hb2 : colophonref01_value.bok l0 (a1 + 2)) (hm : (l0.length : Int) ≤ 9223372036854775807) :
    Calls Try.prog 26 #[.slice A0 l0.length c0, .int .i64 a1, .int .i64 3] w fun e w' => e = .returned (.int .i32 (colophonref01_value.v l0 a1 3)) ∧ Below w.heap.size w w' := by
  obtain ⟨ad, rfl, hx0⟩ := Kd.at_int hr0 a1 h0 (by omega)
  obtain ⟨ad', e', hx1⟩ := Kd.at_int hr0 (a1 + 1) (by omega) (by omega)
  injection e' with e'
  subst e'
  obtain ⟨ad', e', hx2⟩ := Kd.at_int hr0 (a1 + 2) (by omega) (by omega)
  injection e' with e'
  subst e'
  clear hr0
  obtain ⟨b0l, b0h⟩ := hb0
  have hlt0 := World.block_lt_of_cell? w _ hx0
  obtain ⟨b1l, b1h⟩ := hb1
  have hlt1 := World.block_lt_of_cell? w _ hx1
  obtain ⟨b2l, b2h⟩ := hb2
  have hlt2 := World.block_lt_of_cell? w _ hx2
  have q0 : a1 < (l0.length : Int) := by omega
  have q1 : 0 ≤ a1 + 1 := by omega
  have q2 : 0 ≤ a1 + 2 := by omega
  have r1 : a1 + 1 < (l0.length : Int) := by omega
  have r2 : a1 + 2 < (l0.length : Int) := by omega
  have hv : colophonref01_value.v l0 a1 3 = ((rd l0 a1 - 224) * 64 + rd l0 (a1 + 1) - 128) * 64 + rd l0 (a1 + 2) - 128 := rfl
  rw [hv]
  clear hv
  obtain ⟨x0, e0⟩ : ∃ x, x = rd l0 (a1) := ⟨_, rfl⟩
  rw [← e0] at hx0 b0l b0h
  obtain ⟨x1, e1⟩ : ∃ x, x = rd l0 (a1 + 1) := ⟨_, rfl⟩
  rw [← e1] at hx1 b1l b1h
  obtain ⟨x2, e2⟩ : ∃ x, x = rd l0 (a1 + 2) := ⟨_, rfl⟩
  rw [← e2] at hx2 b2l b2h
  rw [← e0, ← e1, ← e2]
  clear e0 e1 e2
  go_enter Try.func26, Try.ntmps26
  go_wp2
  go_quiet (fail)
  go_wp2
  refine wp_loop_rounds 3 ?_
  repeat any_goals (rw [rounds_succ]; go_wp2)
  go_ret
  exact ⟨rfl, by repeat (first | exact Below.refl _ _ | apply below_alloc | apply pw_below_drewN | apply below_drew1)⟩
set_option maxHeartbeats 2000000 in
set_option maxRecDepth 100000 in
theorem colophonref01_value.case4 (A0 : Option Addr) (c0 : Nat) (l0 : List Int) (a1 : Int) (w : World) (hr0 : Kd.C (Kd.int .u8) w A0 l0.length l0) (h0 : 0 ≤ a1) (h1 : a1 + 4 ≤ (l0.length : Int)) (hb0 : colophonref01_value.bok l0 (a1)) (hb1 : colophonref01_value.bok l0 (a1 + 1)) (hb2 : colophonref01_value.bok l0 (a1 + 2)) (hb3 : colophonref01_value.bok l0 (a1 + 3)) (hm : (l0.length : Int) ≤ 9223372036854775807) :
    Calls Try.prog 26 #[.slice A0 l0.length c0, .int .i64 a1, .int .i64 4] w fun e w' => e = .returned (.int .i32 (colophonref01_value.v l0 a1 4)) ∧ Below w.heap.size w w' := by
  obtain ⟨ad, rfl, hx0⟩ := Kd.at_int hr0 a1 h0 (by omega)
  obtain ⟨ad', e', hx1⟩ := Kd.at_int hr0 (a1 + 1) (by omega) (by omega)
  injection e' with e'
  subst e'
  obtain ⟨ad', e', hx2⟩ := Kd.at_int hr0 (a1 + 2) (by omega) (by omega)
  injection e' with e'
  subst e'
  obtain ⟨ad', e', hx3⟩ := Kd.at_int hr0 (a1 + 3) (by omega) (by omega)
  injection e' with e'
  subst e'
  clear hr0
  obtain ⟨b0l, b0h⟩ := hb0
  have hlt0 := World.block_lt_of_cell? w _ hx0
  obtain ⟨b1l, b1h⟩ := hb1
  have hlt1 := World.block_lt_of_cell? w _ hx1
  obtain ⟨b2l, b2h⟩ := hb2
  have hlt2 := World.block_lt_of_cell? w _ hx2
  obtain ⟨b3l, b3h⟩ := hb3
  have hlt3 := World.block_lt_of_cell? w _ hx3
  have q0 : a1 < (l0.length : Int) := by omega
  have q1 : 0 ≤ a1 + 1 := by omega
  have q2 : 0 ≤ a1 + 2 := by omega
  have q3 : 0 ≤ a1 + 3 := by omega
  have r1 : a1 + 1 < (l0.length : Int) := by omega
  have r2 : a1 + 2 < (l0.length : Int) := by omega
  have r3 : a1 + 3 < (l0.length : Int) := by omega
  have hv : colophonref01_value.v l0 a1 4 = (((rd l0 a1 - 240) * 64 + rd l0 (a1 + 1) - 128) * 64 + rd l0 (a1 + 2) - 128) * 64 + rd l0 (a1 + 3) - 128 := rfl
  rw [hv]
  clear hv
  obtain ⟨x0, e0⟩ : ∃ x, x = rd l0 (a1) := ⟨_, rfl⟩
  rw [← e0] at hx0 b0l b0h
  obtain ⟨x1, e1⟩ : ∃ x, x = rd l0 (a1 + 1) := ⟨_, rfl⟩
  rw [← e1] at hx1 b1l b1h
  obtain ⟨x2, e2⟩ : ∃ x, x = rd l0 (a1 + 2) := ⟨_, rfl⟩
  rw [← e2] at hx2 b2l b2h
  obtain ⟨x3, e3⟩ : ∃ x, x = rd l0 (a1 + 3) := ⟨_, rfl⟩
  rw [← e3] at hx3 b3l b3h
  rw [← e0, ← e1, ← e2, ← e3]
  clear e0 e1 e2 e3
  go_enter Try.func26, Try.ntmps26
  go_wp2
  go_quiet (fail)
  go_wp2
  refine wp_loop_rounds 4 ?_
  repeat any_goals (rw [rounds_succ]; go_wp2)
  go_ret
  exact ⟨rfl, by repeat (first | exact Below.refl _ _ | apply below_alloc | apply pw_below_drewN | apply below_drew1)⟩
theorem colophonref01_value.calls (A0 : Option Addr) (c0 : Nat) (l0 : List Int) (a1 : Int) (a2 : Int) (r : Int) (w : World) (hr0 : Kd.C (Kd.int .u8) w A0 l0.length l0) (hc0 : l0.length ≤ c0) (h : colophonref01_value.f l0 a1 a2 = some r) :
    Calls Try.prog 26 #[.slice A0 l0.length c0, .int .i64 a1, .int .i64 a2] w fun e w' => e = .returned (.int .i32 r) ∧ Below w.heap.size w w' := by
  unfold colophonref01_value.f at h
  split at h
  · rename_i hg
    obtain ⟨h0, h1, h2, h3, h4, h5⟩ := hg
    injection h with h
    subst h
    have hk : a2 = 1 ∨ a2 = 2 ∨ a2 = 3 ∨ a2 = 4 := by omega
    rcases hk with rfl | rfl | rfl | rfl
    · exact colophonref01_value.case1 A0 c0 l0 a1 w hr0 h0 h3 (by simpa using h5 0 (by decide)) h4
    · exact colophonref01_value.case2 A0 c0 l0 a1 w hr0 h0 h3 (by simpa using h5 0 (by decide)) (by simpa using h5 1 (by decide)) h4
    · exact colophonref01_value.case3 A0 c0 l0 a1 w hr0 h0 h3 (by simpa using h5 0 (by decide)) (by simpa using h5 1 (by decide)) (by simpa using h5 2 (by decide)) h4
    · exact colophonref01_value.case4 A0 c0 l0 a1 w hr0 h0 h3 (by simpa using h5 0 (by decide)) (by simpa using h5 1 (by decide)) (by simpa using h5 2 (by decide)) (by simpa using h5 3 (by decide)) h4
  · cases h

end Go.Proofs.Ytbdhclhioeeanaa.PU
