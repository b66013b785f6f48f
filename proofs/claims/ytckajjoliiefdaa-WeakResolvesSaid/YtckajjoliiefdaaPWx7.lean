-- written by xp.py (a program of this session's own) over the kit's printer; not trusted: Lean checks it
import Derived.Test.YtckajjoliiefdaaPWx0
namespace Go.Proofs.Ytckajjoliiefdaa.PW
open Go.RowKit Go.Proofs.YtckajjoliiefdaaW.PrintWords Go.Proofs.YtckajjoliiefdaaW.PrintLast Go.Proofs.YtckajjoliiefdaaW.PrintMore
attribute [local go_sem] max2_int min2_int max_two min_two max_three min_three max_four min_four   -- for this text's walks alone
set_option linter.unusedVariables false
set_option linter.unusedSimpArgs false

/-! ### weak_rest: function 25 -/
def weak_rest.l0 : Nat → List Int → Int → Int → Option (List Int)
  | 0, _, _, _ => none
  | k + 1, x0, x7, x8 => if x8 < x7 then (if 0 ≤ x8 then (if x8 < (x0.length : Int) then (if (rd x0 x8) = 5 then (weak_rest.l0 k (x0.set (x8 : Int).toNat 14) x7 (wrap64 (x8 + 1))) else (if (rd x0 x8) = 6 then (weak_rest.l0 k (x0.set (x8 : Int).toNat 14) x7 (wrap64 (x8 + 1))) else (if (rd x0 x8) = 8 then (weak_rest.l0 k (x0.set (x8 : Int).toNat 14) x7 (wrap64 (x8 + 1))) else (weak_rest.l0 k x0 x7 (wrap64 (x8 + 1)))))) else (none)) else (none)) else (some x0)
def weak_rest.f (k : Nat) (l0 : List Int) (a1 : Int) : Option (List Int) := weak_rest.l0 k l0 (l0.length : Int) 0
theorem weak_rest.mono_l : ∀ k, (∀ y0 y1 y2, LeO (weak_rest.l0 k y0 y1 y2) (weak_rest.l0 (k + 1) y0 y1 y2))
  | 0 => fun _ _ _ r h => by simp [weak_rest.l0] at h
  | k + 1 => by
    have ih0 := weak_rest.mono_l k
    · intro y0 y1 y2
      unfold weak_rest.l0
      repeat' first
      | (with_reducible exact ih0 _ _ _)
      | (with_reducible exact LeO.refl _)
      | (with_reducible exact LeO.none _)
      | (with_reducible refine LeO.ite ?_ ?_)
      | (with_reducible refine LeO.bind ?_ (fun _ => ?_))
      | exact ih0 _ _ _
      | exact LeO.none _
      | refine LeO.ite ?_ ?_
      | refine LeO.bind ?_ (fun _ => ?_)
theorem weak_rest.mono : ∀ a0 a1 k, LeO (weak_rest.f k a0 a1) (weak_rest.f (k + 1) a0 a1) := by
  intro a0 a1 k
  have ih0 := weak_rest.mono_l k
  unfold weak_rest.f
  repeat' first
      | (with_reducible exact ih0 _ _ _)
      | (with_reducible exact LeO.refl _)
      | (with_reducible exact LeO.none _)
      | (with_reducible refine LeO.ite ?_ ?_)
      | (with_reducible refine LeO.bind ?_ (fun _ => ?_))
      | exact ih0 _ _ _
      | exact LeO.none _
      | refine LeO.ite ?_ ?_
      | refine LeO.bind ?_ (fun _ => ?_)
set_option maxHeartbeats 8000000 in
set_option maxRecDepth 100000 in
theorem weak_rest.calls (k : Nat) (P0_ : Nat → Prop) (u9000_ : Value) (l0 : List Int) (a1 : Int) (r : List Int) (w0 w : World) (hB : Below w0.heap.size w0 w) (ho0 : Kd.R (Kd.int .i64) 3 w w0.heap.size P0_ u9000_ l0) (h : weak_rest.f k l0 a1 = some r) :
    Calls Try.prog 25 #[u9000_, .int .i64 a1] w fun e w' => e = .returned (.tuple #[]) ∧ Kd.R (Kd.int .i64) 3 w' w0.heap.size (fun k_ => (P0_ k_ ∨ w.heap.size ≤ k_)) u9000_ r ∧ Below w0.heap.size w0 w' ∧ Kept w w' (fun k_ => P0_ k_) := by
  have HO0 := Aside0.mk (show Kd.R (Kd.int .i64) 3 w w0.heap.size (fun k_ => (P0_ k_ ∨ w.heap.size ≤ k_)) u9000_ l0 from Kd.R_mono ho0 (fun k_ hk => (.inl hk)))
  have HK := Aside0.mk (Kept.refl w (fun k_ => P0_ k_))
  have HW0 := Aside0.mk hB.size
  have HB := Aside0.mk hB
  clear hB
  have H : (weak_rest.l0 k l0 (l0.length : Int) 0) = some r := h
  clear h
  have H' := Aside0.mk H
  clear H
  obtain ⟨Ao3, co3, eo3⟩ := Kd.R_slice HO0.out
  subst eo3
  go_enter Try.func25, Try.ntmps25
  go_wp2
  go_loopg [8] k (fun kq v8 w' => ∃ (x0_1 : List Int) (x8_1 : Int), v8 = .int .i64 x8_1 ∧ Aside0 (weak_rest.l0 kq x0_1 (l0.length : Int) x8_1 = some r) ∧ Aside0 (kq ≤ k) ∧ Aside0 (Kd.R (Kd.int .i64) 3 w' w0.heap.size (fun k_ => (P0_ k_ ∨ w.heap.size ≤ k_)) (.slice Ao3 l0.length co3) x0_1) ∧ Aside0 (Kept w w' (fun k_ => P0_ k_)) ∧ Aside0 (Below w0.heap.size w0 w'))
  case atStart => exact ⟨(l0), (0), (by first | rfl | (simp; done) | (simp [*]; done)), H', ⟨Nat.le_refl _⟩, ⟨by (with_reducible repeat (first | apply Kd.R_alloc | apply Kd.R_drewN | apply Kd.R_drew)); exact HO0.out⟩, ⟨by repeat (first | (with_reducible first | exact HK.out | apply Kept.alloc | apply Kept.drewN | apply Kept.drew) | exact HK.out)⟩, ⟨by repeat (first | (with_reducible first | exact HB.out | apply below_alloc | apply pw_below_drewN | apply below_drew1) | exact HB.out)⟩⟩
  case round =>
    clear H'
    try clear c2
    try clear p2
    obtain ⟨x0_1, x8_1, rfl, HA, HK1, HO_0, HK, HB⟩ := hrel
    have hl0_1 := (Kd.R_reads' HO_0.out).1
    rw [hl0_1] at HO_0
    (try simp only [hl0_1])
    cases gk with
    | zero => exact absurd HA.out (by simp [weak_rest.l0])
    | succ k1 =>
      have H := HA.out
      clear HA
      simp only [weak_rest.l0] at H
      by_cases c4 : x8_1 < (l0.length : Int)
      · rw [if_pos c4] at H
        have c4b0 : decide (x8_1 < (l0.length : Int)) = true := decide_eq_true c4
        by_cases c5 : 0 ≤ x8_1
        · rw [if_pos c5] at H
          have c5b0 : decide (0 ≤ x8_1) = true := decide_eq_true c5
          clear c5
          by_cases c6 : x8_1 < (x0_1.length : Int)
          · rw [if_pos c6] at H
            have c6b0 : decide (x8_1 < (x0_1.length : Int)) = true := decide_eq_true c6
            by_cases c7 : (rd x0_1 x8_1) = 5
            · rw [if_pos c7] at H
              have c7b0 : ((rd x0_1 x8_1) == 5) = true := beq_iff_eq.mpr c7
              have c7b1 : ((rd x0_1 x8_1) != 5) = false := bne_eq_false_iff_eq.mpr c7
              clear c7
              obtain ⟨y118, hy118⟩ : ∃ y_ : List Int, y_ = (x0_1.set (x8_1 : Int).toNat 14) := ⟨_, rfl⟩
              replace H : (weak_rest.l0 k1 y118 (l0.length : Int) (wrap64 (x8_1 + 1))) = some r := by first | (rw [hy118]; with_reducible exact H) | (have H2_ := (Option.bind_some _ _).symm.trans H; rw [hy118]; with_reducible exact H2_) | (have H2_ := (Option.bind_some _ _).symm.trans H; with_reducible exact H2_) | with_reducible exact H | (rw [hy118]; exact H) | exact H
              have Ny118 := Aside0.mk hy118
              clear hy118
              have H' := Aside0.mk H
              clear H
              have p117 : 0 ≤ (x8_1 : Int) := of_decide_eq_true (by first | (with_reducible assumption) | assumption)
              have q117 : x8_1 < (x0_1.length : Int) := of_decide_eq_true (by first | (with_reducible assumption) | assumption)
              obtain ⟨ad117, e117, hx117_0⟩ := Kd.at_int (Kd.R_reads' HO_0.out).2.2 x8_1 p117 q117
              cases e117
              replace p117 := eq_true p117
              replace q117 := eq_true q117
              have p8 : 0 ≤ (x8_1 : Int) := of_decide_eq_true (by first | (with_reducible assumption) | assumption)
              have q8 : (x8_1 : Int) < ((x0_1.length : Int) : Int) := of_decide_eq_true (by first | (with_reducible assumption) | assumption)
              obtain ⟨go8, co8, eo8, gb8, gl8, cl8, HG8⟩ := Kd.R_form HO_0.out (by omega)
              (first | cases eo8 | (injection eo8 with ea_ en_ ec_; (first | subst ea_ | (injection ea_ with ea_; subst ea_)); subst ec_; clear en_))
              have GB8 := Aside0.mk gb8
              have GG8 := Aside0.mk HG8
              clear gb8 gl8 HG8
              have HMgo8 := Aside0.mk (show (P0_ go8 ∨ w.heap.size ≤ go8) from (HO_0.out.1 _ rfl))
              (first | simp only [add_plain] at hx117_0 | skip)
              obtain ⟨hx8_0, hf8_0⟩ := Kd.R_celln 0 HO_0.out (x8_1 : Int) p8 q8
              replace p8 := eq_true p8
              replace q8 := eq_true q8
              have HP9 := Kd.R_putg HO_0.out (x8_1 : Int) 14
              go_wp2_with (first | ((with_reducible refine gate_store (t := 3) (p := 25) rfl ?_); refine store_event (t := 3) (p := 25) (v := ?vo_w10) (w1 := (wr.setCell ⟨go8, (x8_1 : Int).toNat, none⟩ (.int .i64 14))) ?hg ?ho ?hn ?hr ?_; (case ho => rfl); (case hg => rfl); (case hn => rfl); (case hr => first | (go_simp; done) | (go_simp; rfl)); intro w10 hw; have hg : wr.grownBy w10 (some go8) := (by rw [hw]; exact HP9.2); have hp_ : Kd.R (Kd.int .i64) 3 w10 w0.heap.size (fun k_ => (P0_ k_ ∨ w.heap.size ≤ k_)) (.slice (some ⟨go8, 0, none⟩) x0_1.length co3) y118 := (by rw [hw, Ny118.out]; exact HP9.1); clear HP9; have n0_ := Aside0.mk (hp_); have n1_ := Aside0.mk ((by rw [hw]; exact below_set (HB.out) GB8.out : Below w0.heap.size w0 w10)); have n2_ := Aside0.mk (Kept.of_grown (S := (fun k_ => P0_ k_)) hg (by repeat (first | (with_reducible first | exact HK.out | apply Kept.alloc | apply Kept.drewN | apply Kept.drew) | exact HK.out)) (fun k_ e_ => (HO_0.out.1 k_ e_))); clear HO_0; clear HB; clear HK; have HO_0 := n0_; have HB := n1_; have HK := n2_; clear n0_ n1_ n2_; clear hg hw hp_))
              (try simp only [← hl0_1])
              go_roundg k1
              case measure => have := HK1.out; omega
              case rel => exact ⟨(y118), (wrap64 (x8_1 + 1)), (by first | rfl | (simp; done) | (simp [*]; done)), H', ⟨by have := HK1.out; omega⟩, ⟨by (try simp only [hl0_1]); (with_reducible repeat (first | apply Kd.R_alloc | apply Kd.R_drewN | apply Kd.R_drew)); exact HO_0.out⟩, ⟨by repeat (first | (with_reducible first | exact HK.out | apply Kept.alloc | apply Kept.drewN | apply Kept.drew) | exact HK.out)⟩, ⟨by repeat (first | (with_reducible first | exact HB.out | apply below_alloc | apply pw_below_drewN | apply below_drew1) | exact HB.out)⟩⟩
            · rw [if_neg c7] at H
              have c7b0 : ((rd x0_1 x8_1) == 5) = false := beq_eq_false_iff_ne.mpr c7
              have c7b1 : ((rd x0_1 x8_1) != 5) = true := bne_iff_ne.mpr c7
              by_cases c11 : (rd x0_1 x8_1) = 6
              · rw [if_pos c11] at H
                have c11b0 : ((rd x0_1 x8_1) == 6) = true := beq_iff_eq.mpr c11
                have c11b1 : ((rd x0_1 x8_1) != 6) = false := bne_eq_false_iff_eq.mpr c11
                clear c11
                obtain ⟨y119, hy119⟩ : ∃ y_ : List Int, y_ = (x0_1.set (x8_1 : Int).toNat 14) := ⟨_, rfl⟩
                replace H : (weak_rest.l0 k1 y119 (l0.length : Int) (wrap64 (x8_1 + 1))) = some r := by first | (rw [hy119]; with_reducible exact H) | (have H2_ := (Option.bind_some _ _).symm.trans H; rw [hy119]; with_reducible exact H2_) | (have H2_ := (Option.bind_some _ _).symm.trans H; with_reducible exact H2_) | with_reducible exact H | (rw [hy119]; exact H) | exact H
                have Ny119 := Aside0.mk hy119
                clear hy119
                have H' := Aside0.mk H
                clear H
                have p117 : 0 ≤ (x8_1 : Int) := of_decide_eq_true (by first | (with_reducible assumption) | assumption)
                have q117 : x8_1 < (x0_1.length : Int) := of_decide_eq_true (by first | (with_reducible assumption) | assumption)
                obtain ⟨ad117, e117, hx117_0⟩ := Kd.at_int (Kd.R_reads' HO_0.out).2.2 x8_1 p117 q117
                cases e117
                replace p117 := eq_true p117
                replace q117 := eq_true q117
                have p12 : 0 ≤ (x8_1 : Int) := of_decide_eq_true (by first | (with_reducible assumption) | assumption)
                have q12 : (x8_1 : Int) < ((x0_1.length : Int) : Int) := of_decide_eq_true (by first | (with_reducible assumption) | assumption)
                obtain ⟨go12, co12, eo12, gb12, gl12, cl12, HG12⟩ := Kd.R_form HO_0.out (by omega)
                (first | cases eo12 | (injection eo12 with ea_ en_ ec_; (first | subst ea_ | (injection ea_ with ea_; subst ea_)); subst ec_; clear en_))
                have GB12 := Aside0.mk gb12
                have GG12 := Aside0.mk HG12
                clear gb12 gl12 HG12
                have HMgo12 := Aside0.mk (show (P0_ go12 ∨ w.heap.size ≤ go12) from (HO_0.out.1 _ rfl))
                (first | simp only [add_plain] at hx117_0 | skip)
                obtain ⟨hx12_0, hf12_0⟩ := Kd.R_celln 0 HO_0.out (x8_1 : Int) p12 q12
                replace p12 := eq_true p12
                replace q12 := eq_true q12
                have HP13 := Kd.R_putg HO_0.out (x8_1 : Int) 14
                go_wp2_with (first | ((with_reducible refine gate_store (t := 3) (p := 25) rfl ?_); refine store_event (t := 3) (p := 25) (v := ?vo_w14) (w1 := (wr.setCell ⟨go12, (x8_1 : Int).toNat, none⟩ (.int .i64 14))) ?hg ?ho ?hn ?hr ?_; (case ho => rfl); (case hg => rfl); (case hn => rfl); (case hr => first | (go_simp; done) | (go_simp; rfl)); intro w14 hw; have hg : wr.grownBy w14 (some go12) := (by rw [hw]; exact HP13.2); have hp_ : Kd.R (Kd.int .i64) 3 w14 w0.heap.size (fun k_ => (P0_ k_ ∨ w.heap.size ≤ k_)) (.slice (some ⟨go12, 0, none⟩) x0_1.length co3) y119 := (by rw [hw, Ny119.out]; exact HP13.1); clear HP13; have n0_ := Aside0.mk (hp_); have n1_ := Aside0.mk ((by rw [hw]; exact below_set (HB.out) GB12.out : Below w0.heap.size w0 w14)); have n2_ := Aside0.mk (Kept.of_grown (S := (fun k_ => P0_ k_)) hg (by repeat (first | (with_reducible first | exact HK.out | apply Kept.alloc | apply Kept.drewN | apply Kept.drew) | exact HK.out)) (fun k_ e_ => (HO_0.out.1 k_ e_))); clear HO_0; clear HB; clear HK; have HO_0 := n0_; have HB := n1_; have HK := n2_; clear n0_ n1_ n2_; clear hg hw hp_))
                (try simp only [← hl0_1])
                go_roundg k1
                case measure => have := HK1.out; omega
                case rel => exact ⟨(y119), (wrap64 (x8_1 + 1)), (by first | rfl | (simp; done) | (simp [*]; done)), H', ⟨by have := HK1.out; omega⟩, ⟨by (try simp only [hl0_1]); (with_reducible repeat (first | apply Kd.R_alloc | apply Kd.R_drewN | apply Kd.R_drew)); exact HO_0.out⟩, ⟨by repeat (first | (with_reducible first | exact HK.out | apply Kept.alloc | apply Kept.drewN | apply Kept.drew) | exact HK.out)⟩, ⟨by repeat (first | (with_reducible first | exact HB.out | apply below_alloc | apply pw_below_drewN | apply below_drew1) | exact HB.out)⟩⟩
              · rw [if_neg c11] at H
                have c11b0 : ((rd x0_1 x8_1) == 6) = false := beq_eq_false_iff_ne.mpr c11
                have c11b1 : ((rd x0_1 x8_1) != 6) = true := bne_iff_ne.mpr c11
                by_cases c15 : (rd x0_1 x8_1) = 8
                · rw [if_pos c15] at H
                  have c15b0 : ((rd x0_1 x8_1) == 8) = true := beq_iff_eq.mpr c15
                  have c15b1 : ((rd x0_1 x8_1) != 8) = false := bne_eq_false_iff_eq.mpr c15
                  clear c15
                  obtain ⟨y120, hy120⟩ : ∃ y_ : List Int, y_ = (x0_1.set (x8_1 : Int).toNat 14) := ⟨_, rfl⟩
                  replace H : (weak_rest.l0 k1 y120 (l0.length : Int) (wrap64 (x8_1 + 1))) = some r := by first | (rw [hy120]; with_reducible exact H) | (have H2_ := (Option.bind_some _ _).symm.trans H; rw [hy120]; with_reducible exact H2_) | (have H2_ := (Option.bind_some _ _).symm.trans H; with_reducible exact H2_) | with_reducible exact H | (rw [hy120]; exact H) | exact H
                  have Ny120 := Aside0.mk hy120
                  clear hy120
                  have H' := Aside0.mk H
                  clear H
                  have p117 : 0 ≤ (x8_1 : Int) := of_decide_eq_true (by first | (with_reducible assumption) | assumption)
                  have q117 : x8_1 < (x0_1.length : Int) := of_decide_eq_true (by first | (with_reducible assumption) | assumption)
                  obtain ⟨ad117, e117, hx117_0⟩ := Kd.at_int (Kd.R_reads' HO_0.out).2.2 x8_1 p117 q117
                  cases e117
                  replace p117 := eq_true p117
                  replace q117 := eq_true q117
                  have p16 : 0 ≤ (x8_1 : Int) := of_decide_eq_true (by first | (with_reducible assumption) | assumption)
                  have q16 : (x8_1 : Int) < ((x0_1.length : Int) : Int) := of_decide_eq_true (by first | (with_reducible assumption) | assumption)
                  obtain ⟨go16, co16, eo16, gb16, gl16, cl16, HG16⟩ := Kd.R_form HO_0.out (by omega)
                  (first | cases eo16 | (injection eo16 with ea_ en_ ec_; (first | subst ea_ | (injection ea_ with ea_; subst ea_)); subst ec_; clear en_))
                  have GB16 := Aside0.mk gb16
                  have GG16 := Aside0.mk HG16
                  clear gb16 gl16 HG16
                  have HMgo16 := Aside0.mk (show (P0_ go16 ∨ w.heap.size ≤ go16) from (HO_0.out.1 _ rfl))
                  (first | simp only [add_plain] at hx117_0 | skip)
                  obtain ⟨hx16_0, hf16_0⟩ := Kd.R_celln 0 HO_0.out (x8_1 : Int) p16 q16
                  replace p16 := eq_true p16
                  replace q16 := eq_true q16
                  have HP17 := Kd.R_putg HO_0.out (x8_1 : Int) 14
                  go_wp2_with (first | ((with_reducible refine gate_store (t := 3) (p := 25) rfl ?_); refine store_event (t := 3) (p := 25) (v := ?vo_w18) (w1 := (wr.setCell ⟨go16, (x8_1 : Int).toNat, none⟩ (.int .i64 14))) ?hg ?ho ?hn ?hr ?_; (case ho => rfl); (case hg => rfl); (case hn => rfl); (case hr => first | (go_simp; done) | (go_simp; rfl)); intro w18 hw; have hg : wr.grownBy w18 (some go16) := (by rw [hw]; exact HP17.2); have hp_ : Kd.R (Kd.int .i64) 3 w18 w0.heap.size (fun k_ => (P0_ k_ ∨ w.heap.size ≤ k_)) (.slice (some ⟨go16, 0, none⟩) x0_1.length co3) y120 := (by rw [hw, Ny120.out]; exact HP17.1); clear HP17; have n0_ := Aside0.mk (hp_); have n1_ := Aside0.mk ((by rw [hw]; exact below_set (HB.out) GB16.out : Below w0.heap.size w0 w18)); have n2_ := Aside0.mk (Kept.of_grown (S := (fun k_ => P0_ k_)) hg (by repeat (first | (with_reducible first | exact HK.out | apply Kept.alloc | apply Kept.drewN | apply Kept.drew) | exact HK.out)) (fun k_ e_ => (HO_0.out.1 k_ e_))); clear HO_0; clear HB; clear HK; have HO_0 := n0_; have HB := n1_; have HK := n2_; clear n0_ n1_ n2_; clear hg hw hp_))
                  (try simp only [← hl0_1])
                  go_roundg k1
                  case measure => have := HK1.out; omega
                  case rel => exact ⟨(y120), (wrap64 (x8_1 + 1)), (by first | rfl | (simp; done) | (simp [*]; done)), H', ⟨by have := HK1.out; omega⟩, ⟨by (try simp only [hl0_1]); (with_reducible repeat (first | apply Kd.R_alloc | apply Kd.R_drewN | apply Kd.R_drew)); exact HO_0.out⟩, ⟨by repeat (first | (with_reducible first | exact HK.out | apply Kept.alloc | apply Kept.drewN | apply Kept.drew) | exact HK.out)⟩, ⟨by repeat (first | (with_reducible first | exact HB.out | apply below_alloc | apply pw_below_drewN | apply below_drew1) | exact HB.out)⟩⟩
                · rw [if_neg c15] at H
                  have c15b0 : ((rd x0_1 x8_1) == 8) = false := beq_eq_false_iff_ne.mpr c15
                  have c15b1 : ((rd x0_1 x8_1) != 8) = true := bne_iff_ne.mpr c15
                  have H' := Aside0.mk H
                  clear H
                  have p117 : 0 ≤ (x8_1 : Int) := of_decide_eq_true (by first | (with_reducible assumption) | assumption)
                  have q117 : x8_1 < (x0_1.length : Int) := of_decide_eq_true (by first | (with_reducible assumption) | assumption)
                  obtain ⟨ad117, e117, hx117_0⟩ := Kd.at_int (Kd.R_reads' HO_0.out).2.2 x8_1 p117 q117
                  cases e117
                  replace p117 := eq_true p117
                  replace q117 := eq_true q117
                  go_wp2
                  (try simp only [← hl0_1])
                  go_roundg k1
                  case measure => have := HK1.out; omega
                  case rel => exact ⟨(x0_1), (wrap64 (x8_1 + 1)), (by first | rfl | (simp; done) | (simp [*]; done)), H', ⟨by have := HK1.out; omega⟩, ⟨by (try simp only [hl0_1]); (with_reducible repeat (first | apply Kd.R_alloc | apply Kd.R_drewN | apply Kd.R_drew)); exact HO_0.out⟩, ⟨by repeat (first | (with_reducible first | exact HK.out | apply Kept.alloc | apply Kept.drewN | apply Kept.drew) | exact HK.out)⟩, ⟨by repeat (first | (with_reducible first | exact HB.out | apply below_alloc | apply pw_below_drewN | apply below_drew1) | exact HB.out)⟩⟩
          · rw [if_neg c6] at H
            exact absurd H (by simp)
        · rw [if_neg c5] at H
          exact absurd H (by simp)
      · rw [if_neg c4] at H
        have c4b0 : decide (x8_1 < (l0.length : Int)) = false := decide_eq_false c4
        obtain rfl := Option.some.inj H
        go_wp2
        first | go_end0 | ((try simp only [Exit.inBlock, Exit.then]); refine bodyPost_ret (results_none rfl _ _ _) rfl ?_)
        exact ⟨by first | rfl | (simp [errW_none, errW_some] <;> rfl) | (simp [*, errW_none, errW_some] <;> rfl), (by first | exact (by (with_reducible repeat (first | apply Kd.R_alloc | apply Kd.R_drewN | apply Kd.R_drew)); exact HO_0.out) | (simp only [hl0_1]; exact (by (with_reducible repeat (first | apply Kd.R_alloc | apply Kd.R_drewN | apply Kd.R_drew)); exact HO_0.out))), by repeat (first | (with_reducible first | exact HB.out | apply below_alloc | apply pw_below_drewN | apply below_drew1) | exact HB.out), by repeat (first | (with_reducible first | exact HK.out | apply Kept.alloc | apply Kept.drewN | apply Kept.drew) | exact HK.out)⟩

/-! ### weak_latin: function 26 -/

theorem weak_latin.hit (g cap n blk : Nat) (i : Int) (w : World) (hb : w.cell? ⟨blk, 0, none⟩ = some (.slice (some ⟨g, 0, none⟩) n cap)) (h0 : 0 ≤ i) (h1 : i < (n : Int)) (hx : w.cell? ⟨g, i.toNat, none⟩ = some (.int .i64 4)) (hf : w.frozen? ⟨g, i.toNat, none⟩ = false) :
    Calls Try.prog 33 #[.int .i64 i, .int .i64 1, .pointer (some ⟨blk, 0, none⟩)] w fun e w' => e = .returned (.tuple #[]) ∧ w' = w.setCell ⟨g, i.toNat, none⟩ (.int .i64 1) := by
  go_enter Try.func33, Try.ntmps33
  go_wp2
  go_end0
  exact ⟨rfl, rfl⟩
theorem weak_latin.miss (g cap n blk : Nat) (i a x : Int) (w : World) (hb : w.cell? ⟨blk, 0, none⟩ = some (.slice (some ⟨g, 0, none⟩) n cap)) (h0 : 0 ≤ i) (h1 : i < (n : Int)) (hx : w.cell? ⟨g, i.toNat, none⟩ = some (.int .i64 x)) (hn : (x == 4) = false ∨ (a == 1) = false) :
    Calls Try.prog 33 #[.int .i64 i, .int .i64 a, .pointer (some ⟨blk, 0, none⟩)] w fun e w' => e = .returned (.tuple #[]) ∧ w' = w := by
  by_cases hx4 : (x == 4) = true
  · have ha : (a == 1) = false := hn.elim (fun h => absurd (hx4.symm.trans h) (by simp)) id
    clear hn
    go_enter Try.func33, Try.ntmps33
    go_wp2
    go_end0
    exact ⟨rfl, rfl⟩
  · replace hx4 := Bool.eq_false_iff.mpr hx4
    clear hn
    go_enter Try.func33, Try.ntmps33
    go_wp2
    go_end0
    exact ⟨rfl, rfl⟩
/-- The rule, from a place on, with the strong type ahead of it. -/
def weak_latin.go : Int → List Int → List Int
  | _, [] => []
  | last, x :: q => (if x = 4 ∧ last = 1 then 1 else x) :: weak_latin.go (if x = 1 ∨ x = 2 ∨ x = 3 then x else last) q
theorem weak_latin.go_len : ∀ (q : List Int) (last : Int), (weak_latin.go last q).length = q.length
  | [], _ => rfl
  | _ :: q, _ => by simp [weak_latin.go, weak_latin.go_len q]
set_option maxHeartbeats 2000000 in
set_option maxRecDepth 100000 in
theorem weak_latin.strong (g cap blk : Nat) (l : List Int) (sos : Int) (base : Nat) (ok : Nat → Prop) (w : World) (hl : (l.length : Int) ≤ 4611686018427387904) (ho : Kd.R (Kd.int .i64) 3 w base ok (.slice (some ⟨g, 0, none⟩) l.length cap) l) (hb : w.heap[blk]? = some (.cells #[.slice (some ⟨g, 0, none⟩) l.length cap] 22 (0, 0))) (hne : blk ≠ g) :
    Calls Try.prog 29 #[.slice (some ⟨g, 0, none⟩) l.length cap, .int .i64 sos, .func (Fn.func 33) #[] #[.pointer (some ⟨blk, 0, none⟩)]] w fun e w' => e = .returned (.tuple #[]) ∧ Kd.R (Kd.int .i64) 3 w' base ok (.slice (some ⟨g, 0, none⟩) l.length cap) (weak_latin.go sos l) ∧ w.grownBy w' (some g) := by
  have HO := Aside0.mk ho
  have HB := Aside0.mk hb
  have HN := Aside0.mk hne
  clear ho hb hne
  obtain ⟨n, en⟩ : ∃ n, n = l.length := ⟨_, rfl⟩
  rw [← en] at HO HB hl ⊢
  have EN := Aside0.mk en
  clear en
  go_enter Try.func29, Try.ntmps29
  go_wp2
  go_loopg [6, 12] n (fun kq v6 v12 w' => ∃ (last i : Int) (p q : List Int), v6 = .int .i64 last ∧ v12 = .int .i64 i ∧ Aside0 (i = (p.length : Int) ∧ p.length + q.length = n ∧ kq = q.length) ∧ Aside0 (Kd.R (Kd.int .i64) 3 w' base ok (.slice (some ⟨g, 0, none⟩) n cap) (p ++ q)) ∧ Aside0 (p ++ weak_latin.go last q = weak_latin.go sos l) ∧ Aside0 (w'.heap[blk]? = some (.cells #[.slice (some ⟨g, 0, none⟩) n cap] 22 (0, 0))) ∧ Aside0 (w.grownBy w' (some g)))
  case atStart => exact ⟨sos, 0, [], l, rfl, rfl, ⟨rfl, by rw [EN.out]; simp, EN.out⟩, HO, ⟨rfl⟩, HB, ⟨World.grownBy.refl _ _⟩⟩
  case round =>
    clear HO HB
    obtain ⟨last, i, p, q, rfl, rfl, HI, HO, HF, HB, HG⟩ := hrel
    have ei := HI.out.1
    have el := HI.out.2.1
    have ek := HI.out.2.2
    cases q with
    | nil =>
      have h1 : decide (i < (n : Int)) = false := decide_eq_false (by rw [ei, ← el]; simp)
      have EI := Aside0.mk ei
      have FF := HF.out
      simp only [weak_latin.go, List.append_nil] at FF
      have FF2 := Aside0.mk FF
      clear FF ei el ek HF
      go_wp2
      go_end0
      have h3 := HO.out
      rw [List.append_nil, FF2.out] at h3
      exact ⟨rfl, h3, HG.out⟩
    | cons x q =>
      have h0 : 0 ≤ i := by rw [ei]; omega
      have h1 : i < (n : Int) := by rw [ei, ← el]; simp; omega
      have h2 : i ≤ 4611686018427387904 := by omega
      have hrd : rdOf 0 (p ++ x :: q) i = x := by rw [ei]; simp [rdOf]
      have hc := Kd.R_celln (0 : Int) HO.out i h0 h1
      rw [hrd] at hc
      obtain ⟨hx, hf⟩ := hc
      have hbc : wr.cell? ⟨blk, 0, none⟩ = some (.slice (some ⟨g, 0, none⟩) n cap) := blk_cell HB.out 0
      have FF : p ++ weak_latin.go last (x :: q) = weak_latin.go sos l := HF.out
      simp only [weak_latin.go] at FF
      clear hrd HF
      simp only [List.length_cons] at ek el
      subst ek
      have EI := Aside0.mk ei
      have EL := Aside0.mk el
      clear ei el
      by_cases hh : x = 4 ∧ last = 1
      · obtain ⟨rfl, rfl⟩ := hh
        rw [if_pos ⟨rfl, rfl⟩, if_neg (by omega)] at FF
        have FF2 := Aside0.mk FF
        clear FF
        have HP := Kd.R_putg HO.out i (1 : Int)
        have HP2 := Aside0.mk HP
        clear HP
        go_wp2_with (go_at_call 33; refine (weak_latin.hit g cap n blk i _ hbc h0 h1 hx hf).mono ?_; rintro e w' ⟨rfl, rfl⟩)
        go_roundg q.length
        case measure => omega
        case rel =>
          have hset : (p ++ 4 :: q).set i.toNat 1 = (p ++ [1]) ++ q := by rw [EI.out]; simp
          refine ⟨1, i + 1, p ++ [1], q, rfl, rfl, ⟨by rw [EI.out]; simp, by have := EL.out; simp; omega, rfl⟩, ⟨?_⟩, ⟨by rw [← FF2.out]; simp⟩, ⟨blk_far HB.out HN.out _⟩, ⟨World.grownBy.trans HG.out HP2.out.2⟩⟩
          have h3 := HP2.out.1
          rw [hset] at h3
          exact h3
      · rw [if_neg hh] at FF
        have hm : (x == 4) = false ∨ (last == 1) = false := by
          by_cases h4 : x = 4
          · exact .inr (beq_eq_false_iff_ne.mpr (fun h => hh ⟨h4, h⟩))
          · exact .inl (beq_eq_false_iff_ne.mpr h4)
        have HM := Aside0.mk hm
        clear hm hh
        have hset : p ++ x :: q = (p ++ [x]) ++ q := by simp
        have HS := Aside0.mk hset
        clear hset
        by_cases s1 : x = 1
        · subst s1
          rw [if_pos (by omega)] at FF
          have FF2 := Aside0.mk FF
          clear FF
          go_wp2_with (go_at_call 33; refine (weak_latin.miss g cap n blk i last 1 _ hbc h0 h1 hx HM.out).mono ?_; rintro e w' ⟨rfl, rfl⟩)
          go_roundg q.length
          case measure => omega
          case rel => exact ⟨1, i + 1, p ++ [1], q, rfl, rfl, ⟨by rw [EI.out]; simp, by have := EL.out; simp; omega, rfl⟩, ⟨by rw [← HS.out]; exact HO.out⟩, ⟨by rw [← FF2.out]; simp⟩, ⟨HB.out⟩, ⟨HG.out⟩⟩
        by_cases s2 : x = 2
        · subst s2
          rw [if_pos (by omega)] at FF
          have FF2 := Aside0.mk FF
          clear FF
          go_wp2_with (go_at_call 33; refine (weak_latin.miss g cap n blk i last 2 _ hbc h0 h1 hx HM.out).mono ?_; rintro e w' ⟨rfl, rfl⟩)
          go_roundg q.length
          case measure => omega
          case rel => exact ⟨2, i + 1, p ++ [2], q, rfl, rfl, ⟨by rw [EI.out]; simp, by have := EL.out; simp; omega, rfl⟩, ⟨by rw [← HS.out]; exact HO.out⟩, ⟨by rw [← FF2.out]; simp⟩, ⟨HB.out⟩, ⟨HG.out⟩⟩
        by_cases s3 : x = 3
        · subst s3
          rw [if_pos (by omega)] at FF
          have FF2 := Aside0.mk FF
          clear FF
          go_wp2_with (go_at_call 33; refine (weak_latin.miss g cap n blk i last 3 _ hbc h0 h1 hx HM.out).mono ?_; rintro e w' ⟨rfl, rfl⟩)
          go_roundg q.length
          case measure => omega
          case rel => exact ⟨3, i + 1, p ++ [3], q, rfl, rfl, ⟨by rw [EI.out]; simp, by have := EL.out; simp; omega, rfl⟩, ⟨by rw [← HS.out]; exact HO.out⟩, ⟨by rw [← FF2.out]; simp⟩, ⟨HB.out⟩, ⟨HG.out⟩⟩
        rw [if_neg (by omega)] at FF
        have FF2 := Aside0.mk FF
        clear FF
        have n1 : (x == 1) = false := beq_eq_false_iff_ne.mpr s1
        have n2 : (x == 2) = false := beq_eq_false_iff_ne.mpr s2
        have n3 : (x == 3) = false := beq_eq_false_iff_ne.mpr s3
        clear s1 s2 s3
        go_wp2_with (go_at_call 33; refine (weak_latin.miss g cap n blk i last x _ hbc h0 h1 hx HM.out).mono ?_; rintro e w' ⟨rfl, rfl⟩)
        go_roundg q.length
        case measure => omega
        case rel => exact ⟨last, i + 1, p ++ [x], q, rfl, rfl, ⟨by rw [EI.out]; simp, by have := EL.out; simp; omega, rfl⟩, ⟨by rw [← HS.out]; exact HO.out⟩, ⟨by rw [← FF2.out]; simp⟩, ⟨HB.out⟩, ⟨HG.out⟩⟩
set_option maxRecDepth 100000 in
theorem weak_latin.empty (A : Option Addr) (cap blk : Nat) (sos : Int) (w : World) : Calls Try.prog 29 #[.slice A 0 cap, .int .i64 sos, .func (Fn.func 33) #[] #[.pointer (some ⟨blk, 0, none⟩)]] w fun e w' => e = .returned (.tuple #[]) ∧ w' = w := by
  go_enter Try.func29, Try.ntmps29
  go_wp2
  refine wp_loop_rounds 1 ?_
  rw [rounds_succ]
  go_wp2
  go_end0
  exact ⟨rfl, rfl⟩
def weak_latin.f (l0 : List Int) (a1 : Int) : Option (List Int) := if (l0.length : Int) ≤ 4611686018427387904 then some (weak_latin.go a1 l0) else none
set_option maxHeartbeats 2000000 in
set_option maxRecDepth 100000 in
theorem weak_latin.calls (P0_ : Nat → Prop) (u9000_ : Value) (l0 : List Int) (a1 : Int) (r : List Int) (w0 w : World) (hB : Below w0.heap.size w0 w) (ho0 : Kd.R (Kd.int .i64) 3 w w0.heap.size P0_ u9000_ l0) (h : weak_latin.f l0 a1 = some r) :
    Calls Try.prog 26 #[u9000_, .int .i64 a1] w fun e w' => e = .returned (.tuple #[]) ∧ Kd.R (Kd.int .i64) 3 w' w0.heap.size (fun k_ => (P0_ k_ ∨ w.heap.size ≤ k_)) u9000_ r ∧ Below w0.heap.size w0 w' ∧ Kept w w' (fun k_ => P0_ k_) := by
  unfold weak_latin.f at h
  split at h
  · rename_i hl
    obtain rfl := Option.some.inj h
    clear h
    by_cases hz : l0 = []
    · subst hz
      obtain ⟨A, cap, rfl⟩ := Kd.R_slice ho0
      simp only [List.length_nil] at *
      have HO := Aside0.mk ho0
      have HB := Aside0.mk hB
      clear ho0 hB hl
      go_enter Try.func26, Try.ntmps26
      go_wp2_with (go_at_call 29; refine (weak_latin.empty A cap _ a1 _).mono ?_; rintro e w' ⟨rfl, rfl⟩)
      go_end0
      exact ⟨rfl, Kd.R_mono (Kd.R_alloc HO.out _) (fun _ h => .inl h), HB.out.alloc HB.out.size _, Kept.alloc (Kept.refl _ _) _⟩
    · have hpos : 0 < l0.length := by
        cases l0 with
        | nil => exact absurd rfl hz
        | cons _ _ => simp
      obtain ⟨g, cap, rfl, hbase, hglt, _, _⟩ := Kd.R_form ho0 hpos
      have HO := Aside0.mk ho0
      have HB := Aside0.mk hB
      have HL := Aside0.mk hl
      have HGB := Aside0.mk hbase
      have HGL := Aside0.mk hglt
      clear ho0 hB hl hpos hz hbase hglt
      go_enter Try.func26, Try.ntmps26
      go_wp2_with (go_at_call 29; refine (weak_latin.strong g cap w.heap.size l0 a1 w0.heap.size P0_ _ HL.out (Kd.R_alloc HO.out _) (blk_new w _) (by have := HGL.out; omega)).mono ?_; rintro e w' ⟨rfl, hr, hg⟩; have HR := Aside0.mk hr; have HG := Aside0.mk hg; clear hr hg)
      go_end0
      refine ⟨rfl, Kd.R_mono HR.out (fun _ h => .inl h), ?_, ?_⟩
      · exact (HB.out.alloc HB.out.size _).grown HG.out (by have := HB.out.size; simp; omega) (fun k e => by injection e with e; subst e; exact HGB.out)
      · exact Kept.of_grown (S := fun k_ => P0_ k_) HG.out (Kept.alloc (Kept.refl _ _) _) (fun k e => .inl (HO.out.1 k e))
  · cases h


-- NOT PRINTED: function 16 (weak_rules)

end Go.Proofs.Ytckajjoliiefdaa.PW
