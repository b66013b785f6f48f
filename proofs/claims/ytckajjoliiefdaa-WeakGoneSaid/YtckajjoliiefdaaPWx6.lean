-- written by xp.py (a program of this session's own) over the kit's printer; not trusted: Lean checks it
import Derived.Test.YtckajjoliiefdaaPWx0
namespace Go.Proofs.Ytckajjoliiefdaa.PW
open Go.RowKit Go.Proofs.YtckajjoliiefdaaW.PrintWords Go.Proofs.YtckajjoliiefdaaW.PrintLast Go.Proofs.YtckajjoliiefdaaW.PrintMore
attribute [local go_sem] max2_int min2_int max_two min_two max_three min_three max_four min_four   -- for this text's walks alone
set_option linter.unusedVariables false
set_option linter.unusedSimpArgs false

/-! ### weak_signs: function 24 -/
/-- xs with v from place a up to (without) b. -/
def weak_signs.fill (xs : List Int) (a b : Nat) : List Int := xs.take a ++ List.replicate (b - a) 4 ++ xs.drop b
theorem weak_signs.fill_none (xs : List Int) (a : Nat) : weak_signs.fill xs a a = xs := by simp [weak_signs.fill]
theorem weak_signs.fill_len (xs : List Int) (a b : Nat) (h : a ≤ b) (hb : b ≤ xs.length) : (weak_signs.fill xs a b).length = xs.length := by simp [weak_signs.fill]; omega
theorem weak_signs.fill_step (xs : List Int) (a i : Nat) (h : a ≤ i) (hi : i < xs.length) : (weak_signs.fill xs a i).set i 4 = weak_signs.fill xs a (i + 1) := by
  have e1 : (xs.take a ++ List.replicate (i - a) (4 : Int)).length = i := by simp; omega
  unfold weak_signs.fill
  rw [List.set_append_right _ _ (by omega), e1, Nat.sub_self, List.drop_eq_getElem_cons hi, List.set_cons_zero, show i + 1 - a = (i - a) + 1 by omega, List.replicate_succ']
  simp
/-- Does a stretch of was become EN? -/
def weak_signs.cond (was : List Int) (a b : Nat) : Bool := (decide (0 < a) && (rd was ((a : Int) - 1) == 4)) || (decide (b < was.length) && (rd was (b : Int) == 4))
set_option maxHeartbeats 2000000 in
set_option maxRecDepth 100000 in
theorem weak_signs.cA (g cap gw capw bt bw n : Nat) (xs was : List Int) (base base2 : Nat) (ok ok2 : Nat → Prop) (w : World) (hn : (n : Int) ≤ 4611686018427387904) (hxn : xs.length = n) (hwn : was.length = n) (ho : Kd.R (Kd.int .i64) 3 w base ok (.slice (some ⟨g, 0, none⟩) n cap) xs) (hw : Kd.R (Kd.int .i64) 3 w base2 ok2 (.slice (some ⟨gw, 0, none⟩) n capw) was) (hbt : w.heap[bt]? = some (.cells #[.slice (some ⟨g, 0, none⟩) n cap] 22 (0, 0))) (hbw : w.heap[bw]? = some (.cells #[.slice (some ⟨gw, 0, none⟩) n capw] 22 (0, 0))) (hg1 : g ≠ gw) (hg2 : bt ≠ g) (hg3 : bw ≠ g) (a b : Nat) (A B : Int) (hA : A = (a : Int)) (hB : B = (b : Int)) (hab : a < b) (hbn : b ≤ n) (h0 : 0 < a) (h1 : rd was ((a : Int) - 1) = 4) :
    Calls Try.prog 32 #[.int .i64 A, .int .i64 B, .pointer (some ⟨bw, 0, none⟩), .pointer (some ⟨bt, 0, none⟩)] w fun e w' => e = .returned (.tuple #[]) ∧ Kd.R (Kd.int .i64) 3 w' base ok (.slice (some ⟨g, 0, none⟩) n cap) (weak_signs.fill xs a b) ∧ w.grownBy w' (some g) := by
  have HO := Aside0.mk ho
  have HBT := Aside0.mk hbt
  have HG2 := Aside0.mk hg2
  have hcw : w.cell? ⟨bw, 0, none⟩ = some (.slice (some ⟨gw, 0, none⟩) n capw) := blk_cell hbw 0
  have hct : w.cell? ⟨bt, 0, none⟩ = some (.slice (some ⟨g, 0, none⟩) n cap) := blk_cell hbt 0
  have q1 : (0 : Int) < A := by omega
  have hx1 := (Kd.R_celln (0 : Int) hw (A - 1) (by omega) (by omega)).1
  have e1 : rdOf 0 was (A - 1) = rd was ((a : Int) - 1) := by rw [hA]; rfl
  rw [e1, show (A - 1).toNat = A.toNat - 1 by omega] at hx1
  clear e1
  generalize rd was ((a : Int) - 1) = y1 at hx1 h1
  have t1 : (y1 == 4) = true := by rw [h1]; rfl
  clear h1
  have HXN := Aside0.mk hxn
  clear hxn hwn ho hw hbt hbw hg1 hg2 hg3
  have b1 : (0 : Int) ≤ A := by omega
  have b2 : B ≤ (n : Int) := by omega
  have b3 : A < B := by omega
  have HAB := Aside0.mk (And.intro hA (And.intro hB (And.intro hab hbn)))
  clear hA hB hab hbn
  go_enter Try.func32, Try.ntmps32
  go_wp2
  clear hct
  have eA := HAB.out.1
  have EA := Aside0.mk eA
  clear eA
  go_loopg [6] (b - a) (fun kq v6 w' => ∃ i : Int, v6 = .int .i64 i ∧ Aside0 (∃ j : Nat, i = (j : Int) ∧ a ≤ j ∧ j + kq = b ∧ Kd.R (Kd.int .i64) 3 w' base ok (.slice (some ⟨g, 0, none⟩) n cap) (weak_signs.fill xs a j)) ∧ Aside0 (w'.heap[bt]? = some (.cells #[.slice (some ⟨g, 0, none⟩) n cap] 22 (0, 0))) ∧ Aside0 (w.grownBy w' (some g)))
  case atStart => exact ⟨_, rfl, ⟨a, HAB.out.1, Nat.le_refl _, by have := HAB.out.2.2.1; omega, by rw [weak_signs.fill_none]; exact HO.out⟩, HBT, ⟨World.grownBy.refl _ _⟩⟩
  case round =>
    clear HBT HO
    obtain ⟨i, rfl, HI, HBT, HG⟩ := hrel
    obtain ⟨j, ej, h1, h2, hr⟩ := HI.out
    have HR := Aside0.mk hr
    clear hr HI
    cases gk with
    | zero =>
      have d1 : decide (i < B) = false := decide_eq_false (by have := HAB.out; omega)
      have EJ := Aside0.mk (show j = b by omega)
      clear ej h1 h2
      go_wp2
      go_end0
      have h3 := HR.out
      rw [EJ.out] at h3
      exact ⟨rfl, h3, HG.out⟩
    | succ k1 =>
      have d1 : i < B := by have := HAB.out; omega
      have d2 : 0 ≤ i := by omega
      have d3 : i < (n : Int) := by omega
      have d4 : i ≤ 4611686018427387904 := by omega
      have hbc : wr.cell? ⟨bt, 0, none⟩ = some (.slice (some ⟨g, 0, none⟩) n cap) := blk_cell HBT.out 0
      obtain ⟨hx, hf⟩ := Kd.R_celln (0 : Int) HR.out i d2 d3
      have HP := Aside0.mk (Kd.R_putg HR.out i (4 : Int))
      have hset : (weak_signs.fill xs a j).set i.toNat 4 = weak_signs.fill xs a (j + 1) := by rw [ej, Int.toNat_natCast]; exact weak_signs.fill_step xs a j h1 (by have := HXN.out; have := HAB.out; omega)
      have HS := Aside0.mk hset
      have HJ := Aside0.mk (And.intro ej (And.intro h1 h2))
      clear ej h1 h2 hset
      go_wp2
      go_roundg k1
      case measure => omega
      case rel =>
        refine ⟨i + 1, rfl, ⟨j + 1, ?_, ?_, ?_, ?_⟩, ⟨blk_far HBT.out HG2.out _⟩, ⟨World.grownBy.trans HG.out HP.out.2⟩⟩
        · have := HJ.out.1; omega
        · have := HJ.out.2.1; omega
        · have := HJ.out.2.2; omega
        · have h3 := HP.out.1
          rw [HS.out] at h3
          exact h3
set_option maxHeartbeats 2000000 in
set_option maxRecDepth 100000 in
theorem weak_signs.cB1 (g cap gw capw bt bw n : Nat) (xs was : List Int) (base base2 : Nat) (ok ok2 : Nat → Prop) (w : World) (hn : (n : Int) ≤ 4611686018427387904) (hxn : xs.length = n) (hwn : was.length = n) (ho : Kd.R (Kd.int .i64) 3 w base ok (.slice (some ⟨g, 0, none⟩) n cap) xs) (hw : Kd.R (Kd.int .i64) 3 w base2 ok2 (.slice (some ⟨gw, 0, none⟩) n capw) was) (hbt : w.heap[bt]? = some (.cells #[.slice (some ⟨g, 0, none⟩) n cap] 22 (0, 0))) (hbw : w.heap[bw]? = some (.cells #[.slice (some ⟨gw, 0, none⟩) n capw] 22 (0, 0))) (hg1 : g ≠ gw) (hg2 : bt ≠ g) (hg3 : bw ≠ g) (a b : Nat) (A B : Int) (hA : A = (a : Int)) (hB : B = (b : Int)) (hab : a < b) (hbn : b ≤ n) (h0 : 0 < a) (h1 : rd was ((a : Int) - 1) ≠ 4) (h3 : b < n) (h2 : rd was (b : Int) = 4) :
    Calls Try.prog 32 #[.int .i64 A, .int .i64 B, .pointer (some ⟨bw, 0, none⟩), .pointer (some ⟨bt, 0, none⟩)] w fun e w' => e = .returned (.tuple #[]) ∧ Kd.R (Kd.int .i64) 3 w' base ok (.slice (some ⟨g, 0, none⟩) n cap) (weak_signs.fill xs a b) ∧ w.grownBy w' (some g) := by
  have HO := Aside0.mk ho
  have HBT := Aside0.mk hbt
  have HG2 := Aside0.mk hg2
  have hcw : w.cell? ⟨bw, 0, none⟩ = some (.slice (some ⟨gw, 0, none⟩) n capw) := blk_cell hbw 0
  have hct : w.cell? ⟨bt, 0, none⟩ = some (.slice (some ⟨g, 0, none⟩) n cap) := blk_cell hbt 0
  have q1 : (0 : Int) < A := by omega
  have hx1 := (Kd.R_celln (0 : Int) hw (A - 1) (by omega) (by omega)).1
  have e1 : rdOf 0 was (A - 1) = rd was ((a : Int) - 1) := by rw [hA]; rfl
  rw [e1, show (A - 1).toNat = A.toNat - 1 by omega] at hx1
  clear e1
  generalize rd was ((a : Int) - 1) = y1 at hx1 h1
  have t1 : (y1 == 4) = false := beq_eq_false_iff_ne.mpr h1
  clear h1
  have q2 : B < (n : Int) := by omega
  have hx2 := (Kd.R_celln (0 : Int) hw B (by omega) (by omega)).1
  have e2 : rdOf 0 was B = rd was (b : Int) := by rw [hB]; rfl
  rw [e2] at hx2
  clear e2
  generalize rd was (b : Int) = y2 at hx2 h2
  have t2 : (y2 == 4) = true := by rw [h2]; rfl
  clear h2
  have HXN := Aside0.mk hxn
  clear hxn hwn ho hw hbt hbw hg1 hg2 hg3
  have b1 : (0 : Int) ≤ A := by omega
  have b2 : B ≤ (n : Int) := by omega
  have b3 : A < B := by omega
  have HAB := Aside0.mk (And.intro hA (And.intro hB (And.intro hab hbn)))
  clear hA hB hab hbn
  go_enter Try.func32, Try.ntmps32
  go_wp2
  clear hct
  have eA := HAB.out.1
  have EA := Aside0.mk eA
  clear eA
  go_loopg [6] (b - a) (fun kq v6 w' => ∃ i : Int, v6 = .int .i64 i ∧ Aside0 (∃ j : Nat, i = (j : Int) ∧ a ≤ j ∧ j + kq = b ∧ Kd.R (Kd.int .i64) 3 w' base ok (.slice (some ⟨g, 0, none⟩) n cap) (weak_signs.fill xs a j)) ∧ Aside0 (w'.heap[bt]? = some (.cells #[.slice (some ⟨g, 0, none⟩) n cap] 22 (0, 0))) ∧ Aside0 (w.grownBy w' (some g)))
  case atStart => exact ⟨_, rfl, ⟨a, HAB.out.1, Nat.le_refl _, by have := HAB.out.2.2.1; omega, by rw [weak_signs.fill_none]; exact HO.out⟩, HBT, ⟨World.grownBy.refl _ _⟩⟩
  case round =>
    clear HBT HO
    obtain ⟨i, rfl, HI, HBT, HG⟩ := hrel
    obtain ⟨j, ej, h1, h2, hr⟩ := HI.out
    have HR := Aside0.mk hr
    clear hr HI
    cases gk with
    | zero =>
      have d1 : decide (i < B) = false := decide_eq_false (by have := HAB.out; omega)
      have EJ := Aside0.mk (show j = b by omega)
      clear ej h1 h2
      go_wp2
      go_end0
      have h3 := HR.out
      rw [EJ.out] at h3
      exact ⟨rfl, h3, HG.out⟩
    | succ k1 =>
      have d1 : i < B := by have := HAB.out; omega
      have d2 : 0 ≤ i := by omega
      have d3 : i < (n : Int) := by omega
      have d4 : i ≤ 4611686018427387904 := by omega
      have hbc : wr.cell? ⟨bt, 0, none⟩ = some (.slice (some ⟨g, 0, none⟩) n cap) := blk_cell HBT.out 0
      obtain ⟨hx, hf⟩ := Kd.R_celln (0 : Int) HR.out i d2 d3
      have HP := Aside0.mk (Kd.R_putg HR.out i (4 : Int))
      have hset : (weak_signs.fill xs a j).set i.toNat 4 = weak_signs.fill xs a (j + 1) := by rw [ej, Int.toNat_natCast]; exact weak_signs.fill_step xs a j h1 (by have := HXN.out; have := HAB.out; omega)
      have HS := Aside0.mk hset
      have HJ := Aside0.mk (And.intro ej (And.intro h1 h2))
      clear ej h1 h2 hset
      go_wp2
      go_roundg k1
      case measure => omega
      case rel =>
        refine ⟨i + 1, rfl, ⟨j + 1, ?_, ?_, ?_, ?_⟩, ⟨blk_far HBT.out HG2.out _⟩, ⟨World.grownBy.trans HG.out HP.out.2⟩⟩
        · have := HJ.out.1; omega
        · have := HJ.out.2.1; omega
        · have := HJ.out.2.2; omega
        · have h3 := HP.out.1
          rw [HS.out] at h3
          exact h3
set_option maxHeartbeats 2000000 in
set_option maxRecDepth 100000 in
theorem weak_signs.cB2 (g cap gw capw bt bw n : Nat) (xs was : List Int) (base base2 : Nat) (ok ok2 : Nat → Prop) (w : World) (hn : (n : Int) ≤ 4611686018427387904) (hxn : xs.length = n) (hwn : was.length = n) (ho : Kd.R (Kd.int .i64) 3 w base ok (.slice (some ⟨g, 0, none⟩) n cap) xs) (hw : Kd.R (Kd.int .i64) 3 w base2 ok2 (.slice (some ⟨gw, 0, none⟩) n capw) was) (hbt : w.heap[bt]? = some (.cells #[.slice (some ⟨g, 0, none⟩) n cap] 22 (0, 0))) (hbw : w.heap[bw]? = some (.cells #[.slice (some ⟨gw, 0, none⟩) n capw] 22 (0, 0))) (hg1 : g ≠ gw) (hg2 : bt ≠ g) (hg3 : bw ≠ g) (a b : Nat) (A B : Int) (hA : A = (a : Int)) (hB : B = (b : Int)) (hab : a < b) (hbn : b ≤ n) (h0 : 0 < a) (h1 : rd was ((a : Int) - 1) ≠ 4) (h3 : b < n) (h2 : rd was (b : Int) ≠ 4) :
    Calls Try.prog 32 #[.int .i64 A, .int .i64 B, .pointer (some ⟨bw, 0, none⟩), .pointer (some ⟨bt, 0, none⟩)] w fun e w' => e = .returned (.tuple #[]) ∧ Kd.R (Kd.int .i64) 3 w' base ok (.slice (some ⟨g, 0, none⟩) n cap) (xs) ∧ w.grownBy w' (some g) := by
  have HO := Aside0.mk ho
  have HBT := Aside0.mk hbt
  have HG2 := Aside0.mk hg2
  have hcw : w.cell? ⟨bw, 0, none⟩ = some (.slice (some ⟨gw, 0, none⟩) n capw) := blk_cell hbw 0
  have hct : w.cell? ⟨bt, 0, none⟩ = some (.slice (some ⟨g, 0, none⟩) n cap) := blk_cell hbt 0
  have q1 : (0 : Int) < A := by omega
  have hx1 := (Kd.R_celln (0 : Int) hw (A - 1) (by omega) (by omega)).1
  have e1 : rdOf 0 was (A - 1) = rd was ((a : Int) - 1) := by rw [hA]; rfl
  rw [e1, show (A - 1).toNat = A.toNat - 1 by omega] at hx1
  clear e1
  generalize rd was ((a : Int) - 1) = y1 at hx1 h1
  have t1 : (y1 == 4) = false := beq_eq_false_iff_ne.mpr h1
  clear h1
  have q2 : B < (n : Int) := by omega
  have hx2 := (Kd.R_celln (0 : Int) hw B (by omega) (by omega)).1
  have e2 : rdOf 0 was B = rd was (b : Int) := by rw [hB]; rfl
  rw [e2] at hx2
  clear e2
  generalize rd was (b : Int) = y2 at hx2 h2
  have t2 : (y2 == 4) = false := beq_eq_false_iff_ne.mpr h2
  clear h2
  have HXN := Aside0.mk hxn
  clear hxn hwn ho hw hbt hbw hg1 hg2 hg3
  have b1 : (0 : Int) ≤ A := by omega
  have b2 : B ≤ (n : Int) := by omega
  have b3 : A < B := by omega
  have HAB := Aside0.mk (And.intro hA (And.intro hB (And.intro hab hbn)))
  clear hA hB hab hbn
  go_enter Try.func32, Try.ntmps32
  go_wp2
  go_end0
  exact ⟨rfl, HO.out, World.grownBy.refl _ _⟩
set_option maxHeartbeats 2000000 in
set_option maxRecDepth 100000 in
theorem weak_signs.cB3 (g cap gw capw bt bw n : Nat) (xs was : List Int) (base base2 : Nat) (ok ok2 : Nat → Prop) (w : World) (hn : (n : Int) ≤ 4611686018427387904) (hxn : xs.length = n) (hwn : was.length = n) (ho : Kd.R (Kd.int .i64) 3 w base ok (.slice (some ⟨g, 0, none⟩) n cap) xs) (hw : Kd.R (Kd.int .i64) 3 w base2 ok2 (.slice (some ⟨gw, 0, none⟩) n capw) was) (hbt : w.heap[bt]? = some (.cells #[.slice (some ⟨g, 0, none⟩) n cap] 22 (0, 0))) (hbw : w.heap[bw]? = some (.cells #[.slice (some ⟨gw, 0, none⟩) n capw] 22 (0, 0))) (hg1 : g ≠ gw) (hg2 : bt ≠ g) (hg3 : bw ≠ g) (a b : Nat) (A B : Int) (hA : A = (a : Int)) (hB : B = (b : Int)) (hab : a < b) (hbn : b ≤ n) (h0 : 0 < a) (h1 : rd was ((a : Int) - 1) ≠ 4) (h3 : b = n) :
    Calls Try.prog 32 #[.int .i64 A, .int .i64 B, .pointer (some ⟨bw, 0, none⟩), .pointer (some ⟨bt, 0, none⟩)] w fun e w' => e = .returned (.tuple #[]) ∧ Kd.R (Kd.int .i64) 3 w' base ok (.slice (some ⟨g, 0, none⟩) n cap) (xs) ∧ w.grownBy w' (some g) := by
  have HO := Aside0.mk ho
  have HBT := Aside0.mk hbt
  have HG2 := Aside0.mk hg2
  have hcw : w.cell? ⟨bw, 0, none⟩ = some (.slice (some ⟨gw, 0, none⟩) n capw) := blk_cell hbw 0
  have hct : w.cell? ⟨bt, 0, none⟩ = some (.slice (some ⟨g, 0, none⟩) n cap) := blk_cell hbt 0
  have q1 : (0 : Int) < A := by omega
  have hx1 := (Kd.R_celln (0 : Int) hw (A - 1) (by omega) (by omega)).1
  have e1 : rdOf 0 was (A - 1) = rd was ((a : Int) - 1) := by rw [hA]; rfl
  rw [e1, show (A - 1).toNat = A.toNat - 1 by omega] at hx1
  clear e1
  generalize rd was ((a : Int) - 1) = y1 at hx1 h1
  have t1 : (y1 == 4) = false := beq_eq_false_iff_ne.mpr h1
  clear h1
  have t3 : decide (B < (n : Int)) = false := decide_eq_false (by omega)
  have HXN := Aside0.mk hxn
  clear hxn hwn ho hw hbt hbw hg1 hg2 hg3
  have b1 : (0 : Int) ≤ A := by omega
  have b2 : B ≤ (n : Int) := by omega
  have b3 : A < B := by omega
  have HAB := Aside0.mk (And.intro hA (And.intro hB (And.intro hab hbn)))
  clear hA hB hab hbn
  go_enter Try.func32, Try.ntmps32
  go_wp2
  go_end0
  exact ⟨rfl, HO.out, World.grownBy.refl _ _⟩
set_option maxHeartbeats 2000000 in
set_option maxRecDepth 100000 in
theorem weak_signs.cC1 (g cap gw capw bt bw n : Nat) (xs was : List Int) (base base2 : Nat) (ok ok2 : Nat → Prop) (w : World) (hn : (n : Int) ≤ 4611686018427387904) (hxn : xs.length = n) (hwn : was.length = n) (ho : Kd.R (Kd.int .i64) 3 w base ok (.slice (some ⟨g, 0, none⟩) n cap) xs) (hw : Kd.R (Kd.int .i64) 3 w base2 ok2 (.slice (some ⟨gw, 0, none⟩) n capw) was) (hbt : w.heap[bt]? = some (.cells #[.slice (some ⟨g, 0, none⟩) n cap] 22 (0, 0))) (hbw : w.heap[bw]? = some (.cells #[.slice (some ⟨gw, 0, none⟩) n capw] 22 (0, 0))) (hg1 : g ≠ gw) (hg2 : bt ≠ g) (hg3 : bw ≠ g) (a b : Nat) (A B : Int) (hA : A = (a : Int)) (hB : B = (b : Int)) (hab : a < b) (hbn : b ≤ n) (h0 : a = 0) (h3 : b < n) (h2 : rd was (b : Int) = 4) :
    Calls Try.prog 32 #[.int .i64 A, .int .i64 B, .pointer (some ⟨bw, 0, none⟩), .pointer (some ⟨bt, 0, none⟩)] w fun e w' => e = .returned (.tuple #[]) ∧ Kd.R (Kd.int .i64) 3 w' base ok (.slice (some ⟨g, 0, none⟩) n cap) (weak_signs.fill xs a b) ∧ w.grownBy w' (some g) := by
  have HO := Aside0.mk ho
  have HBT := Aside0.mk hbt
  have HG2 := Aside0.mk hg2
  have hcw : w.cell? ⟨bw, 0, none⟩ = some (.slice (some ⟨gw, 0, none⟩) n capw) := blk_cell hbw 0
  have hct : w.cell? ⟨bt, 0, none⟩ = some (.slice (some ⟨g, 0, none⟩) n cap) := blk_cell hbt 0
  have t0 : decide ((0 : Int) < A) = false := decide_eq_false (by omega)
  have q2 : B < (n : Int) := by omega
  have hx2 := (Kd.R_celln (0 : Int) hw B (by omega) (by omega)).1
  have e2 : rdOf 0 was B = rd was (b : Int) := by rw [hB]; rfl
  rw [e2] at hx2
  clear e2
  generalize rd was (b : Int) = y2 at hx2 h2
  have t2 : (y2 == 4) = true := by rw [h2]; rfl
  clear h2
  have HXN := Aside0.mk hxn
  clear hxn hwn ho hw hbt hbw hg1 hg2 hg3
  have b1 : (0 : Int) ≤ A := by omega
  have b2 : B ≤ (n : Int) := by omega
  have b3 : A < B := by omega
  have HAB := Aside0.mk (And.intro hA (And.intro hB (And.intro hab hbn)))
  clear hA hB hab hbn
  go_enter Try.func32, Try.ntmps32
  go_wp2
  clear hct
  have eA := HAB.out.1
  have EA := Aside0.mk eA
  clear eA
  go_loopg [6] (b - a) (fun kq v6 w' => ∃ i : Int, v6 = .int .i64 i ∧ Aside0 (∃ j : Nat, i = (j : Int) ∧ a ≤ j ∧ j + kq = b ∧ Kd.R (Kd.int .i64) 3 w' base ok (.slice (some ⟨g, 0, none⟩) n cap) (weak_signs.fill xs a j)) ∧ Aside0 (w'.heap[bt]? = some (.cells #[.slice (some ⟨g, 0, none⟩) n cap] 22 (0, 0))) ∧ Aside0 (w.grownBy w' (some g)))
  case atStart => exact ⟨_, rfl, ⟨a, HAB.out.1, Nat.le_refl _, by have := HAB.out.2.2.1; omega, by rw [weak_signs.fill_none]; exact HO.out⟩, HBT, ⟨World.grownBy.refl _ _⟩⟩
  case round =>
    clear HBT HO
    obtain ⟨i, rfl, HI, HBT, HG⟩ := hrel
    obtain ⟨j, ej, h1, h2, hr⟩ := HI.out
    have HR := Aside0.mk hr
    clear hr HI
    cases gk with
    | zero =>
      have d1 : decide (i < B) = false := decide_eq_false (by have := HAB.out; omega)
      have EJ := Aside0.mk (show j = b by omega)
      clear ej h1 h2
      go_wp2
      go_end0
      have h3 := HR.out
      rw [EJ.out] at h3
      exact ⟨rfl, h3, HG.out⟩
    | succ k1 =>
      have d1 : i < B := by have := HAB.out; omega
      have d2 : 0 ≤ i := by omega
      have d3 : i < (n : Int) := by omega
      have d4 : i ≤ 4611686018427387904 := by omega
      have hbc : wr.cell? ⟨bt, 0, none⟩ = some (.slice (some ⟨g, 0, none⟩) n cap) := blk_cell HBT.out 0
      obtain ⟨hx, hf⟩ := Kd.R_celln (0 : Int) HR.out i d2 d3
      have HP := Aside0.mk (Kd.R_putg HR.out i (4 : Int))
      have hset : (weak_signs.fill xs a j).set i.toNat 4 = weak_signs.fill xs a (j + 1) := by rw [ej, Int.toNat_natCast]; exact weak_signs.fill_step xs a j h1 (by have := HXN.out; have := HAB.out; omega)
      have HS := Aside0.mk hset
      have HJ := Aside0.mk (And.intro ej (And.intro h1 h2))
      clear ej h1 h2 hset
      go_wp2
      go_roundg k1
      case measure => omega
      case rel =>
        refine ⟨i + 1, rfl, ⟨j + 1, ?_, ?_, ?_, ?_⟩, ⟨blk_far HBT.out HG2.out _⟩, ⟨World.grownBy.trans HG.out HP.out.2⟩⟩
        · have := HJ.out.1; omega
        · have := HJ.out.2.1; omega
        · have := HJ.out.2.2; omega
        · have h3 := HP.out.1
          rw [HS.out] at h3
          exact h3
set_option maxHeartbeats 2000000 in
set_option maxRecDepth 100000 in
theorem weak_signs.cC2 (g cap gw capw bt bw n : Nat) (xs was : List Int) (base base2 : Nat) (ok ok2 : Nat → Prop) (w : World) (hn : (n : Int) ≤ 4611686018427387904) (hxn : xs.length = n) (hwn : was.length = n) (ho : Kd.R (Kd.int .i64) 3 w base ok (.slice (some ⟨g, 0, none⟩) n cap) xs) (hw : Kd.R (Kd.int .i64) 3 w base2 ok2 (.slice (some ⟨gw, 0, none⟩) n capw) was) (hbt : w.heap[bt]? = some (.cells #[.slice (some ⟨g, 0, none⟩) n cap] 22 (0, 0))) (hbw : w.heap[bw]? = some (.cells #[.slice (some ⟨gw, 0, none⟩) n capw] 22 (0, 0))) (hg1 : g ≠ gw) (hg2 : bt ≠ g) (hg3 : bw ≠ g) (a b : Nat) (A B : Int) (hA : A = (a : Int)) (hB : B = (b : Int)) (hab : a < b) (hbn : b ≤ n) (h0 : a = 0) (h3 : b < n) (h2 : rd was (b : Int) ≠ 4) :
    Calls Try.prog 32 #[.int .i64 A, .int .i64 B, .pointer (some ⟨bw, 0, none⟩), .pointer (some ⟨bt, 0, none⟩)] w fun e w' => e = .returned (.tuple #[]) ∧ Kd.R (Kd.int .i64) 3 w' base ok (.slice (some ⟨g, 0, none⟩) n cap) (xs) ∧ w.grownBy w' (some g) := by
  have HO := Aside0.mk ho
  have HBT := Aside0.mk hbt
  have HG2 := Aside0.mk hg2
  have hcw : w.cell? ⟨bw, 0, none⟩ = some (.slice (some ⟨gw, 0, none⟩) n capw) := blk_cell hbw 0
  have hct : w.cell? ⟨bt, 0, none⟩ = some (.slice (some ⟨g, 0, none⟩) n cap) := blk_cell hbt 0
  have t0 : decide ((0 : Int) < A) = false := decide_eq_false (by omega)
  have q2 : B < (n : Int) := by omega
  have hx2 := (Kd.R_celln (0 : Int) hw B (by omega) (by omega)).1
  have e2 : rdOf 0 was B = rd was (b : Int) := by rw [hB]; rfl
  rw [e2] at hx2
  clear e2
  generalize rd was (b : Int) = y2 at hx2 h2
  have t2 : (y2 == 4) = false := beq_eq_false_iff_ne.mpr h2
  clear h2
  have HXN := Aside0.mk hxn
  clear hxn hwn ho hw hbt hbw hg1 hg2 hg3
  have b1 : (0 : Int) ≤ A := by omega
  have b2 : B ≤ (n : Int) := by omega
  have b3 : A < B := by omega
  have HAB := Aside0.mk (And.intro hA (And.intro hB (And.intro hab hbn)))
  clear hA hB hab hbn
  go_enter Try.func32, Try.ntmps32
  go_wp2
  go_end0
  exact ⟨rfl, HO.out, World.grownBy.refl _ _⟩
set_option maxHeartbeats 2000000 in
set_option maxRecDepth 100000 in
theorem weak_signs.cC3 (g cap gw capw bt bw n : Nat) (xs was : List Int) (base base2 : Nat) (ok ok2 : Nat → Prop) (w : World) (hn : (n : Int) ≤ 4611686018427387904) (hxn : xs.length = n) (hwn : was.length = n) (ho : Kd.R (Kd.int .i64) 3 w base ok (.slice (some ⟨g, 0, none⟩) n cap) xs) (hw : Kd.R (Kd.int .i64) 3 w base2 ok2 (.slice (some ⟨gw, 0, none⟩) n capw) was) (hbt : w.heap[bt]? = some (.cells #[.slice (some ⟨g, 0, none⟩) n cap] 22 (0, 0))) (hbw : w.heap[bw]? = some (.cells #[.slice (some ⟨gw, 0, none⟩) n capw] 22 (0, 0))) (hg1 : g ≠ gw) (hg2 : bt ≠ g) (hg3 : bw ≠ g) (a b : Nat) (A B : Int) (hA : A = (a : Int)) (hB : B = (b : Int)) (hab : a < b) (hbn : b ≤ n) (h0 : a = 0) (h3 : b = n) :
    Calls Try.prog 32 #[.int .i64 A, .int .i64 B, .pointer (some ⟨bw, 0, none⟩), .pointer (some ⟨bt, 0, none⟩)] w fun e w' => e = .returned (.tuple #[]) ∧ Kd.R (Kd.int .i64) 3 w' base ok (.slice (some ⟨g, 0, none⟩) n cap) (xs) ∧ w.grownBy w' (some g) := by
  have HO := Aside0.mk ho
  have HBT := Aside0.mk hbt
  have HG2 := Aside0.mk hg2
  have hcw : w.cell? ⟨bw, 0, none⟩ = some (.slice (some ⟨gw, 0, none⟩) n capw) := blk_cell hbw 0
  have hct : w.cell? ⟨bt, 0, none⟩ = some (.slice (some ⟨g, 0, none⟩) n cap) := blk_cell hbt 0
  have t0 : decide ((0 : Int) < A) = false := decide_eq_false (by omega)
  have t3 : decide (B < (n : Int)) = false := decide_eq_false (by omega)
  have HXN := Aside0.mk hxn
  clear hxn hwn ho hw hbt hbw hg1 hg2 hg3
  have b1 : (0 : Int) ≤ A := by omega
  have b2 : B ≤ (n : Int) := by omega
  have b3 : A < B := by omega
  have HAB := Aside0.mk (And.intro hA (And.intro hB (And.intro hab hbn)))
  clear hA hB hab hbn
  go_enter Try.func32, Try.ntmps32
  go_wp2
  go_end0
  exact ⟨rfl, HO.out, World.grownBy.refl _ _⟩
theorem weak_signs.see (g cap gw capw bt bw n : Nat) (xs was : List Int) (base base2 : Nat) (ok ok2 : Nat → Prop) (w : World) (hn : (n : Int) ≤ 4611686018427387904) (hxn : xs.length = n) (hwn : was.length = n) (ho : Kd.R (Kd.int .i64) 3 w base ok (.slice (some ⟨g, 0, none⟩) n cap) xs) (hw : Kd.R (Kd.int .i64) 3 w base2 ok2 (.slice (some ⟨gw, 0, none⟩) n capw) was) (hbt : w.heap[bt]? = some (.cells #[.slice (some ⟨g, 0, none⟩) n cap] 22 (0, 0))) (hbw : w.heap[bw]? = some (.cells #[.slice (some ⟨gw, 0, none⟩) n capw] 22 (0, 0))) (hg1 : g ≠ gw) (hg2 : bt ≠ g) (hg3 : bw ≠ g) (a b : Nat) (A B : Int) (hA : A = (a : Int)) (hB : B = (b : Int)) (hab : a < b) (hbn : b ≤ n) :
    Calls Try.prog 32 #[.int .i64 A, .int .i64 B, .pointer (some ⟨bw, 0, none⟩), .pointer (some ⟨bt, 0, none⟩)] w fun e w' => e = .returned (.tuple #[]) ∧ Kd.R (Kd.int .i64) 3 w' base ok (.slice (some ⟨g, 0, none⟩) n cap) (if weak_signs.cond was a b = true then weak_signs.fill xs a b else xs) ∧ w.grownBy w' (some g) := by
  have e : weak_signs.cond was a b = ((decide (0 < a) && (rd was ((a : Int) - 1) == 4)) || (decide (b < n) && (rd was (b : Int) == 4))) := by rw [weak_signs.cond, hwn]
  rw [e]
  by_cases h0 : 0 < a
  · by_cases h1 : rd was ((a : Int) - 1) = 4
    · rw [if_pos (by simp [h0, h1])]
      exact weak_signs.cA g cap gw capw bt bw n xs was base base2 ok ok2 w hn hxn hwn ho hw hbt hbw hg1 hg2 hg3 a b A B hA hB hab hbn h0 h1
    · by_cases h3 : b < n
      · by_cases h2 : rd was (b : Int) = 4
        · rw [if_pos (by simp [h3, h2])]
          exact weak_signs.cB1 g cap gw capw bt bw n xs was base base2 ok ok2 w hn hxn hwn ho hw hbt hbw hg1 hg2 hg3 a b A B hA hB hab hbn h0 h1 h3 h2
        · rw [if_neg (by simp [h1, h2])]
          exact weak_signs.cB2 g cap gw capw bt bw n xs was base base2 ok ok2 w hn hxn hwn ho hw hbt hbw hg1 hg2 hg3 a b A B hA hB hab hbn h0 h1 h3 h2
      · rw [if_neg (by simp [h1, h3])]
        exact weak_signs.cB3 g cap gw capw bt bw n xs was base base2 ok ok2 w hn hxn hwn ho hw hbt hbw hg1 hg2 hg3 a b A B hA hB hab hbn h0 h1 (by omega)
  · by_cases h3 : b < n
    · by_cases h2 : rd was (b : Int) = 4
      · rw [if_pos (by simp [h3, h2])]
        exact weak_signs.cC1 g cap gw capw bt bw n xs was base base2 ok ok2 w hn hxn hwn ho hw hbt hbw hg1 hg2 hg3 a b A B hA hB hab hbn (by omega) h3 h2
      · rw [if_neg (by simp [h0, h2])]
        exact weak_signs.cC2 g cap gw capw bt bw n xs was base base2 ok ok2 w hn hxn hwn ho hw hbt hbw hg1 hg2 hg3 a b A B hA hB hab hbn (by omega) h3 h2
    · rw [if_neg (by simp [h0, h3])]
      exact weak_signs.cC3 g cap gw capw bt bw n xs was base base2 ok ok2 w hn hxn hwn ho hw hbt hbw hg1 hg2 hg3 a b A B hA hB hab hbn (by omega) (by omega)
/-- How many of 6 stand at the front. -/
def weak_signs.run (q : List Int) : Nat := (q.takeWhile fun x => x == 6).length
theorem weak_signs.run_eq (was : List Int) (i : Nat) : ∀ (d : Nat), (∀ m : Nat, i ≤ m → m < i + d → rd was (m : Int) = 6) → i + d ≤ was.length → (i + d = was.length ∨ rd was ((i + d : Nat) : Int) ≠ 6) → weak_signs.run (was.drop i) = d := by
  have key : ∀ (q : List Int) (d : Nat), (∀ m : Nat, m < d → rd q (m : Int) = 6) → d ≤ q.length → (d = q.length ∨ rd q (d : Int) ≠ 6) → weak_signs.run q = d := by
    intro q
    induction q with
    | nil => intro d _ h _; simp at h; simp [weak_signs.run, h]
    | cons x q ih =>
      intro d h1 h2 h3
      cases d with
      | zero =>
        have hx : x ≠ 6 := by
          rcases h3 with h3 | h3
          · simp at h3
          · simpa [rd] using h3
        simp [weak_signs.run, hx]
      | succ d =>
        have hx : x = 6 := by simpa [rd] using h1 0 (by omega)
        have := ih d (fun m hm => by simpa [rd, Int.toNat] using h1 (m + 1) (by omega)) (by simpa using h2) (by
          rcases h3 with h3 | h3
          · left; simpa using h3
          · right; simpa [rd, Int.toNat] using h3)
        unfold weak_signs.run at this ⊢
        simp [hx, this]
  intro d h1 h2 h3
  have hr : ∀ m : Nat, rd (was.drop i) (m : Int) = rd was ((i + m : Nat) : Int) := fun m => by
    unfold rd
    rw [Int.toNat_natCast, Int.toNat_natCast]
    simp [List.getD]
  refine key (was.drop i) d (fun m hm => ?_) (by simp; omega) ?_
  · rw [hr]; exact h1 (i + m) (by omega) (by omega)
  · rw [hr]
    rcases h3 with h3 | h3
    · left; simp; omega
    · right; exact h3
set_option maxRecDepth 100000 in
theorem weak_signs.idle (A : Option Addr) (cap blk bt : Nat) (w : World) : Calls Try.prog 31 #[.slice A 0 cap, .int .i64 6, .func (Fn.func 32) #[] #[.pointer (some ⟨blk, 0, none⟩), .pointer (some ⟨bt, 0, none⟩)]] w fun e w' => e = .returned (.tuple #[]) ∧ w' = w := by
  go_enter Try.func31, Try.ntmps31
  go_wp2
  refine wp_loop_rounds 1 ?_
  rw [rounds_succ]
  go_wp2
  go_end0
  exact ⟨rfl, rfl⟩
/-- The rule from a stretch on; d: so many stretches at the most. -/
def weak_signs.outer : Nat → List Int → Nat → List Int → List Int
  | 0, _, _, xs => xs
  | d + 1, was, i, xs => if i < was.length then weak_signs.outer d was (i + weak_signs.run (was.drop i) + 1) (if i < i + weak_signs.run (was.drop i) ∧ weak_signs.cond was i (i + weak_signs.run (was.drop i)) = true then weak_signs.fill xs i (i + weak_signs.run (was.drop i)) else xs) else xs
set_option maxHeartbeats 4000000 in
set_option maxRecDepth 100000 in
theorem weak_signs.stretches (g cap gw capw bt bw n : Nat) (xs was : List Int) (base base2 : Nat) (ok ok2 : Nat → Prop) (w : World) (hn : (n : Int) ≤ 4611686018427387904) (hxn : xs.length = n) (hwn : was.length = n) (ho : Kd.R (Kd.int .i64) 3 w base ok (.slice (some ⟨g, 0, none⟩) n cap) xs) (hw : Kd.R (Kd.int .i64) 3 w base2 ok2 (.slice (some ⟨gw, 0, none⟩) n capw) was) (hbt : w.heap[bt]? = some (.cells #[.slice (some ⟨g, 0, none⟩) n cap] 22 (0, 0))) (hbw : w.heap[bw]? = some (.cells #[.slice (some ⟨gw, 0, none⟩) n capw] 22 (0, 0))) (hg1 : g ≠ gw) (hg2 : bt ≠ g) (hg3 : bw ≠ g) :
    Calls Try.prog 31 #[.slice (some ⟨gw, 0, none⟩) n capw, .int .i64 6, .func (Fn.func 32) #[] #[.pointer (some ⟨bw, 0, none⟩), .pointer (some ⟨bt, 0, none⟩)]] w fun e w' => e = .returned (.tuple #[]) ∧ Kd.R (Kd.int .i64) 3 w' base ok (.slice (some ⟨g, 0, none⟩) n cap) (weak_signs.outer (n + 1) was 0 xs) ∧ w.grownBy w' (some g) := by
  have HO := Aside0.mk ho
  have HW := Aside0.mk hw
  have HBT := Aside0.mk hbt
  have HBW := Aside0.mk hbw
  have HG := Aside0.mk (And.intro hg1 (And.intro hg2 hg3))
  have HX := Aside0.mk hxn
  have HWN := Aside0.mk hwn
  clear ho hw hbt hbw hg1 hg2 hg3 hxn hwn
  go_enter Try.func31, Try.ntmps31
  go_wp2
  go_loopg [6] (n + 1) (fun kq v6 w' => ∃ i : Int, v6 = .int .i64 i ∧ Aside0 (∃ (j : Nat) (ys : List Int), i = (j : Int) ∧ n + 1 ≤ j + kq ∧ ys.length = n ∧ j ≤ n + 1 ∧ Kd.R (Kd.int .i64) 3 w' base ok (.slice (some ⟨g, 0, none⟩) n cap) ys ∧ weak_signs.outer kq was j ys = weak_signs.outer (n + 1) was 0 xs) ∧ Aside0 (Kd.R (Kd.int .i64) 3 w' base2 ok2 (.slice (some ⟨gw, 0, none⟩) n capw) was) ∧ Aside0 (w'.heap[bt]? = some (.cells #[.slice (some ⟨g, 0, none⟩) n cap] 22 (0, 0))) ∧ Aside0 (w'.heap[bw]? = some (.cells #[.slice (some ⟨gw, 0, none⟩) n capw] 22 (0, 0))) ∧ Aside0 (w.grownBy w' (some g)))
  case atStart => exact ⟨0, rfl, ⟨0, xs, rfl, by omega, HX.out, by omega, HO.out, rfl⟩, HW, HBT, HBW, ⟨World.grownBy.refl _ _⟩⟩
  case round =>
    clear HO HW HBT HBW
    obtain ⟨i, rfl, HI, HW, HBT, HBW, HGR⟩ := hrel
    by_cases hlt : i < (n : Int)
    · obtain ⟨wo, rfl⟩ : ∃ wo : World, wo = wr := ⟨_, rfl⟩
      have d0 : 0 ≤ i := by obtain ⟨j, _, ej, _⟩ := HI.out; omega
      go_wp2
      go_loop [6] (fun v6 => ∃ m : Int, v6 = .int .i64 m ∧ i ≤ m ∧ m ≤ (n : Int) ∧ Aside0 (∀ z : Nat, i ≤ (z : Int) → (z : Int) < m → rd was (z : Int) = 6)) (fun v6 => n - (intOf v6).toNat)
      case atStart => exact ⟨i, rfl, by omega, by omega, ⟨fun z h1 h2 => by omega⟩⟩
      case round =>
        obtain ⟨m, rfl, m1, m2, HM⟩ := hrel
        have m0 : 0 ≤ m := by omega
        by_cases hm : m < (n : Int)
        · have hc := (Kd.R_celln (0 : Int) HW.out m m0 hm).1
          have e1 : rdOf 0 was m = rd was m := rfl
          rw [e1] at hc
          obtain ⟨y, hy⟩ : ∃ y, y = rd was m := ⟨_, rfl⟩
          rw [← hy] at hc
          have HY := Aside0.mk hy
          clear hy e1
          by_cases h6 : (y == 6) = true
          · go_wp2
            go_round
            case rel => exact ⟨m + 1, rfl, by omega, by omega, ⟨fun z h1 h2 => by
              by_cases hz : (z : Int) = m
              · rw [hz, ← HY.out]; exact beq_iff_eq.mp h6
              · exact HM.out z h1 (by omega)⟩⟩
            case measure => simp [intOf]; omega
          · replace h6 := Bool.eq_false_iff.mpr h6
            have HE := Aside0.mk (show m = (n : Int) ∨ rd was m ≠ 6 from .inr (by rw [← HY.out]; exact beq_eq_false_iff_ne.mp h6))
            obtain ⟨j, ys, ej, h1, h2, h4, h3, h5⟩ := HI.out
            obtain ⟨m', em⟩ : ∃ m' : Nat, m = (m' : Int) := ⟨m.toNat, by omega⟩
            have hrun : weak_signs.run (was.drop j) = m' - j := by
              refine weak_signs.run_eq was j (m' - j) (fun z z1 z2 => HM.out z (by omega) (by omega)) (by have := HWN.out; omega) ?_
              have := HE.out
              rcases this with h | h
              · left; have := HWN.out; omega
              · right; rw [show j + (m' - j) = m' by omega, ← em]; exact h
            have ejm : j + (m' - j) = m' := by omega
            obtain ⟨k1, rfl⟩ : ∃ k, gk = k + 1 := ⟨gk - 1, by omega⟩
            have h6 : weak_signs.outer (k1 + 1) was j ys = weak_signs.outer k1 was (m' + 1) (if j < m' ∧ weak_signs.cond was j m' = true then weak_signs.fill ys j m' else ys) := by
              rw [weak_signs.outer, if_pos (by have := HWN.out; omega), hrun, ejm]
            rw [h6] at h5
            have H5 := Aside0.mk h5
            have H3 := Aside0.mk h3
            have HQ := Aside0.mk (And.intro ej (And.intro em (And.intro h1 (And.intro h2 h4))))
            clear h5 h6 h3 ej em h1 h2 h4 hrun ejm HI HM HE
            have hj : (j : Int) ≤ m := by have := HQ.out; omega
            have hmn : m ≤ (n : Int) := m2
            by_cases hgt : i < m
            · have HGT := Aside0.mk hgt
              go_wp2_with (go_at_call 32; refine (weak_signs.see g cap gw capw bt bw n ys was base base2 ok ok2 _ hn HQ.out.2.2.2.1 HWN.out H3.out HW.out HBT.out HBW.out HG.out.1 HG.out.2.1 HG.out.2.2 j m' i m HQ.out.1 HQ.out.2.1 (by have := HQ.out; have := HGT.out; omega) (by have := HQ.out; omega)).mono ?_; rintro e w' ⟨rfl, hr, hgr⟩; have HR := Aside0.mk hr; have HG2 := Aside0.mk hgr; clear hr hgr)
              go_roundg k1
              case measure => omega
              case rel =>
                have hq := HQ.out
                have h5 := H5.out
                have hlt2 : j < m' := by have := HGT.out; omega
                refine ⟨m + 1, rfl, ⟨m' + 1, if weak_signs.cond was j m' = true then weak_signs.fill ys j m' else ys, by omega, by omega, ?_, by omega, HR.out, ?_⟩, ⟨?_⟩, ⟨blk_grown HBT.out HG2.out (by simpa using HG.out.2.1)⟩, ⟨blk_grown HBW.out HG2.out (by simpa using HG.out.2.2)⟩, ⟨World.grownBy.trans HGR.out HG2.out⟩⟩
                · split
                  · rw [weak_signs.fill_len _ _ _ (by omega) (by omega)]; omega
                  · omega
                · rw [← h5]
                  by_cases hc : weak_signs.cond was j m' = true
                  · rw [if_pos hc, if_pos ⟨hlt2, hc⟩]
                  · rw [if_neg hc, if_neg (fun h => hc h.2)]
                · exact Kd.R_mono (Kd.R_grown (Kd.R_ne_row HW.out HG.out.1) HG2.out (fun k hk => hk.2)) (fun k hk => hk.1)
            · have hgt' : decide (i < m) = false := decide_eq_false hgt
              have HGT := Aside0.mk hgt
              clear hgt
              go_wp2
              go_roundg k1
              case measure => omega
              case rel =>
                have hq := HQ.out
                have h5 := H5.out
                have hgt2 := HGT.out
                refine ⟨m + 1, rfl, ⟨m' + 1, ys, by omega, by omega, by omega, by omega, H3.out, ?_⟩, HW, HBT, HBW, HGR⟩
                rw [← h5, if_neg (fun h => by omega)]
        · have hm' : decide (m < (n : Int)) = false := decide_eq_false hm
          have HE := Aside0.mk (show m = (n : Int) ∨ rd was m ≠ 6 from .inl (by omega))
          obtain ⟨j, ys, ej, h1, h2, h4, h3, h5⟩ := HI.out
          obtain ⟨m', em⟩ : ∃ m' : Nat, m = (m' : Int) := ⟨m.toNat, by omega⟩
          have hrun : weak_signs.run (was.drop j) = m' - j := by
            refine weak_signs.run_eq was j (m' - j) (fun z z1 z2 => HM.out z (by omega) (by omega)) (by have := HWN.out; omega) ?_
            have := HE.out
            rcases this with h | h
            · left; have := HWN.out; omega
            · right; rw [show j + (m' - j) = m' by omega, ← em]; exact h
          have ejm : j + (m' - j) = m' := by omega
          obtain ⟨k1, rfl⟩ : ∃ k, gk = k + 1 := ⟨gk - 1, by omega⟩
          have h6 : weak_signs.outer (k1 + 1) was j ys = weak_signs.outer k1 was (m' + 1) (if j < m' ∧ weak_signs.cond was j m' = true then weak_signs.fill ys j m' else ys) := by
            rw [weak_signs.outer, if_pos (by have := HWN.out; omega), hrun, ejm]
          rw [h6] at h5
          have H5 := Aside0.mk h5
          have H3 := Aside0.mk h3
          have HQ := Aside0.mk (And.intro ej (And.intro em (And.intro h1 (And.intro h2 h4))))
          clear h5 h6 h3 ej em h1 h2 h4 hrun ejm HI HM HE
          have hj : (j : Int) ≤ m := by have := HQ.out; omega
          have hmn : m ≤ (n : Int) := m2
          by_cases hgt : i < m
          · have HGT := Aside0.mk hgt
            go_wp2_with (go_at_call 32; refine (weak_signs.see g cap gw capw bt bw n ys was base base2 ok ok2 _ hn HQ.out.2.2.2.1 HWN.out H3.out HW.out HBT.out HBW.out HG.out.1 HG.out.2.1 HG.out.2.2 j m' i m HQ.out.1 HQ.out.2.1 (by have := HQ.out; have := HGT.out; omega) (by have := HQ.out; omega)).mono ?_; rintro e w' ⟨rfl, hr, hgr⟩; have HR := Aside0.mk hr; have HG2 := Aside0.mk hgr; clear hr hgr)
            go_roundg k1
            case measure => omega
            case rel =>
              have hq := HQ.out
              have h5 := H5.out
              have hlt2 : j < m' := by have := HGT.out; omega
              refine ⟨m + 1, rfl, ⟨m' + 1, if weak_signs.cond was j m' = true then weak_signs.fill ys j m' else ys, by omega, by omega, ?_, by omega, HR.out, ?_⟩, ⟨?_⟩, ⟨blk_grown HBT.out HG2.out (by simpa using HG.out.2.1)⟩, ⟨blk_grown HBW.out HG2.out (by simpa using HG.out.2.2)⟩, ⟨World.grownBy.trans HGR.out HG2.out⟩⟩
              · split
                · rw [weak_signs.fill_len _ _ _ (by omega) (by omega)]; omega
                · omega
              · rw [← h5]
                by_cases hc : weak_signs.cond was j m' = true
                · rw [if_pos hc, if_pos ⟨hlt2, hc⟩]
                · rw [if_neg hc, if_neg (fun h => hc h.2)]
              · exact Kd.R_mono (Kd.R_grown (Kd.R_ne_row HW.out HG.out.1) HG2.out (fun k hk => hk.2)) (fun k hk => hk.1)
          · have hgt' : decide (i < m) = false := decide_eq_false hgt
            have HGT := Aside0.mk hgt
            clear hgt
            go_wp2
            go_roundg k1
            case measure => omega
            case rel =>
              have hq := HQ.out
              have h5 := H5.out
              have hgt2 := HGT.out
              refine ⟨m + 1, rfl, ⟨m' + 1, ys, by omega, by omega, by omega, by omega, H3.out, ?_⟩, HW, HBT, HBW, HGR⟩
              rw [← h5, if_neg (fun h => by omega)]
    · have hlt' : decide (i < (n : Int)) = false := decide_eq_false hlt
      have HL := Aside0.mk hlt
      clear hlt
      go_wp2
      go_end0
      obtain ⟨j, ys, ej, h1, h2, h4, h3, h5⟩ := HI.out
      have hend : weak_signs.outer gk was j ys = ys := by
        cases gk with
        | zero => rfl
        | succ d =>
          rw [weak_signs.outer, if_neg]
          have := HL.out
          have := HWN.out
          omega
      rw [hend] at h5
      rw [← h5]
      exact ⟨rfl, h3, HGR.out⟩
set_option maxHeartbeats 2000000 in
set_option maxRecDepth 100000 in
theorem weak_signs.full (g cap : Nat) (l0 : List Int) (a1 : Int) (base : Nat) (ok : Nat → Prop) (w : World) (hl : (l0.length : Int) ≤ 4611686018427387904) (hm : l0.length < 17592186044416) (hpos : 0 < l0.length) (ho : Kd.R (Kd.int .i64) 3 w base ok (.slice (some ⟨g, 0, none⟩) l0.length cap) l0) (hglt : g < w.heap.size) :
    Calls Try.prog 24 #[.slice (some ⟨g, 0, none⟩) l0.length cap, .int .i64 a1] w fun e w' => e = .returned (.tuple #[]) ∧ Kd.R (Kd.int .i64) 3 w' base ok (.slice (some ⟨g, 0, none⟩) l0.length cap) (weak_signs.outer (l0.length + 1) l0 0 l0) ∧ ∃ w1, Below w.heap.size w w1 ∧ w1.grownBy w' (some g) := by
  have HO := Aside0.mk ho
  have HL := Aside0.mk hl
  have HM := Aside0.mk hm
  have HPOS := Aside0.mk hpos
  have HGLT := Aside0.mk hglt
  clear ho hl hm hpos hglt
  go_enter Try.func24, Try.ntmps24
  go_wp2_with (first | ((with_reducible refine gate_dst (N := 5) rfl ?_); refine Kd.R_lit (Kd.int .i64) _ 3 ?hg (N := 5) ?hd (xs := ([] : List Int)) (inner := []) (ok := fun _ => True) (okp := fun _ => True) ?hr ?hp (fun _ hk => hk) trivial (Below.refl _ _) (Nat.le_refl _) (by simp) ?_; (case hd => rfl); (case hg => rfl); (case hr => first | (go_simp; done) | (go_simp; rfl)); (case hp => exact (Reps.none _ _)); intro v5 w5 ho5 hb5 hg_ hnew_; clear hg_ hnew_; have HO5 := Aside0.mk ho5; have HB5 := Aside0.mk hb5; have hc5 := blk_cell (blk_below (blk_new w _) hb5) 0; have HC5 := Aside0.mk (blk_below (blk_new w (.cells #[.slice (some ⟨g, 0, none⟩) l0.length cap] 22)) hb5); clear ho5 hb5) | ((with_reducible refine gate_builtin (b := .append) (xs := #[.tmp 5, .tmp 6]) rfl ?_); at_builtin; refine Kd.R_append_rows (Kd.int .i64) (w0 := w) w.heap.size rfl (.tmp 5) (.tmp 6) 22 3 (.int .i64 0) 8 rfl Try.underlying22 info3 rfl (by decide) (by omega) v5 [] l0 _ _ _ (fun _ => True) (fun _ => False) rfl rfl ?aO ?aR (fun _ _ h => h) (fun _ h => h.elim) ?aF ?aB ?aS ?aL ?_; (case aR => exact (Kd.R_reads' (Kd.R_below (Kd.R_alloc HO.out _) HB5.out)).2.2); (case aB => exact below_step (below_alloc (Below.refl _ _) _) HB5.out); (case aF => exact (fun _ _ => trivial)); (case aO => exact Kd.R_lower HO5.out (below_size (below_alloc (Below.refl _ _) _))); (case aS => exact below_size (below_step (below_alloc (Below.refl _ _) _) HB5.out)); (case aL => have := HM.out; simp; omega); intro v7 w7 ho7 hb7 hg7 hat7; rw [List.nil_append] at ho7; obtain ⟨gw, capw, rfl, hgw1, hgw2, _⟩ := Kd.R_form ho7 HPOS.out; have HO7 := Aside0.mk ho7; have HB7 := Aside0.mk hb7; have HG7 := Aside0.mk hg7; have HN5 := Aside0.mk (Kd.R_base HO5.out); have HGW := Aside0.mk (And.intro hgw1 hgw2); clear ho7 hb7 hg7 hat7 hgw1 hgw2) | (go_at_call 31; refine (weak_signs.stretches g cap gw capw w.heap.size w7.heap.size l0.length l0 l0 base w.heap.size ok (fun _ => True) _ HL.out rfl rfl (Kd.R_alloc (Kd.R_below HO.out HB7.out) _) (Kd.R_alloc HO7.out _) (blk_alloc (blk_grown HC5.out HG7.out (fun e => by have := HN5.out _ e.symm; have := HB5.out.size; simp at *; omega)) _) (blk_new w7 _) (by have := HGLT.out; have := HGW.out; omega) (by have := HGLT.out; omega) (by have := HGLT.out; have := HB7.out.size; omega)).mono ?_; rintro e w' ⟨rfl, hr, hgr⟩; have HR := Aside0.mk hr; have HGR := Aside0.mk hgr; clear hr hgr))
  go_end0
  exact ⟨rfl, HR.out, _, below_alloc HB7.out _, HGR.out⟩
theorem weak_signs.outer_nil (xs : List Int) (d i : Nat) : weak_signs.outer d [] i xs = xs := by cases d <;> simp [weak_signs.outer]
set_option maxHeartbeats 2000000 in
set_option maxRecDepth 100000 in
theorem weak_signs.empty (A : Option Addr) (cap : Nat) (a1 : Int) (base : Nat) (ok : Nat → Prop) (w : World) (ho : Kd.R (Kd.int .i64) 3 w base ok (.slice A 0 cap) []) :
    Calls Try.prog 24 #[.slice A 0 cap, .int .i64 a1] w fun e w' => e = .returned (.tuple #[]) ∧ Below w.heap.size w w' := by
  have HO := Aside0.mk ho
  clear ho
  go_enter Try.func24, Try.ntmps24
  go_wp2_with (first | ((with_reducible refine gate_dst (N := 5) rfl ?_); refine Kd.R_lit (Kd.int .i64) _ 3 ?hg (N := 5) ?hd (xs := ([] : List Int)) (inner := []) (ok := fun _ => True) (okp := fun _ => True) ?hr ?hp (fun _ hk => hk) trivial (Below.refl _ _) (Nat.le_refl _) (by simp) ?_; (case hd => rfl); (case hg => rfl); (case hr => first | (go_simp; done) | (go_simp; rfl)); (case hp => exact (Reps.none _ _)); intro v5 w5 ho5 hb5 hg_ hnew_; clear hg_ hnew_; have HO5 := Aside0.mk ho5; have HB5 := Aside0.mk hb5; have hc5 := blk_cell (blk_below (blk_new w _) hb5) 0; clear ho5 hb5) | ((with_reducible refine gate_builtin (b := .append) (xs := #[.tmp 5, .tmp 6]) rfl ?_); at_builtin; refine Kd.R_append_rows (Kd.int .i64) (w0 := w) w.heap.size rfl (.tmp 5) (.tmp 6) 22 3 (.int .i64 0) 8 rfl Try.underlying22 info3 rfl (by decide) (by omega) v5 [] [] _ _ _ (fun _ => True) (fun _ => False) rfl rfl ?aO ?aR (fun _ _ h => h) (fun _ h => h.elim) ?aF ?aB ?aS ?aL ?_; (case aR => exact (Kd.R_reads' (Kd.R_below (Kd.R_alloc HO.out _) HB5.out)).2.2); (case aB => exact below_step (below_alloc (Below.refl _ _) _) HB5.out); (case aF => exact (fun _ _ => trivial)); (case aO => exact Kd.R_lower HO5.out (below_size (below_alloc (Below.refl _ _) _))); (case aS => exact below_size (below_step (below_alloc (Below.refl _ _) _) HB5.out)); (case aL => simp); intro v7 w7 ho7 hb7 hg7 hat7; rw [List.nil_append] at ho7; obtain ⟨A7, c7, rfl⟩ := Kd.R_slice ho7; have HB7 := Aside0.mk hb7; clear ho7 hb7 hg7 hat7) | (go_at_call 31; refine (weak_signs.idle A7 c7 _ _ _).mono ?_; rintro e w' ⟨rfl, rfl⟩))
  go_end0
  exact ⟨rfl, below_alloc HB7.out _⟩
def weak_signs.f (l0 : List Int) (a1 : Int) : Option (List Int) := if l0.length < 17592186044416 then some (weak_signs.outer (l0.length + 1) l0 0 l0) else none
theorem weak_signs.calls (P0_ : Nat → Prop) (u9000_ : Value) (l0 : List Int) (a1 : Int) (r : List Int) (w0 w : World) (hB : Below w0.heap.size w0 w) (ho0 : Kd.R (Kd.int .i64) 3 w w0.heap.size P0_ u9000_ l0) (h : weak_signs.f l0 a1 = some r) :
    Calls Try.prog 24 #[u9000_, .int .i64 a1] w fun e w' => e = .returned (.tuple #[]) ∧ Kd.R (Kd.int .i64) 3 w' w0.heap.size (fun k_ => (P0_ k_ ∨ w.heap.size ≤ k_)) u9000_ r ∧ Below w0.heap.size w0 w' ∧ Kept w w' (fun k_ => P0_ k_) := by
  unfold weak_signs.f at h
  split at h
  · rename_i hl
    obtain rfl := Option.some.inj h
    by_cases hz : l0 = []
    · subst hz
      obtain ⟨A, cap, rfl⟩ := Kd.R_slice ho0
      refine (weak_signs.empty A cap a1 _ _ w ho0).mono ?_
      rintro e w' ⟨rfl, hb⟩
      refine ⟨rfl, ?_, below_weaken hB hB.size hb, Kept.of_below hb _⟩
      rw [weak_signs.outer_nil]
      exact Kd.R_mono (Kd.R_below ho0 hb) (fun _ h => .inl h)
    · have hpos : 0 < l0.length := by
        cases l0 with
        | nil => exact absurd rfl hz
        | cons _ _ => simp
      obtain ⟨g, cap, rfl, hbase, hglt, _, _⟩ := Kd.R_form ho0 hpos
      refine (weak_signs.full g cap l0 a1 w0.heap.size P0_ w (by omega) hl hpos ho0 hglt).mono ?_
      rintro e w' ⟨rfl, hr, w1, hb, hg⟩
      refine ⟨rfl, Kd.R_mono hr (fun _ h => .inl h), ?_, ?_⟩
      · exact (below_weaken hB hB.size hb).grown hg (by have := hB.size; have := hb.size; omega) (fun k e => by injection e with e; subst e; exact hbase)
      · exact Kept.of_grown (S := fun k_ => P0_ k_) hg (Kept.of_below hb _) (fun k e => .inl (ho0.1 k e))
  · cases h

end Go.Proofs.Ytckajjoliiefdaa.PW
