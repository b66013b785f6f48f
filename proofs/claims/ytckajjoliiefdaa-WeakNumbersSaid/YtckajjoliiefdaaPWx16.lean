-- written by xp.py (a program of this session's own) over the kit's printer; not trusted: Lean checks it
import Derived.Test.YtckajjoliiefdaaPWx0
import Derived.Test.YtckajjoliiefdaaPWx1
import Derived.Test.YtckajjoliiefdaaPWx2
import Derived.Test.YtckajjoliiefdaaPWx3
import Derived.Test.YtckajjoliiefdaaPWx4
import Derived.Test.YtckajjoliiefdaaPWx6
import Derived.Test.YtckajjoliiefdaaPWx7
import Derived.Test.YtckajjoliiefdaaPWx8
namespace Go.Proofs.Ytckajjoliiefdaa.PW
open Go.RowKit Go.Proofs.YtckajjoliiefdaaW.PrintWords Go.Proofs.YtckajjoliiefdaaW.PrintLast Go.Proofs.YtckajjoliiefdaaW.PrintMore
attribute [local go_sem] max2_int min2_int max_two min_two max_three min_three max_four min_four   -- for this text's walks alone
set_option linter.unusedVariables false
set_option linter.unusedSimpArgs false

/-! ### weak_Step: function 13 -/
set_option maxHeartbeats 2000000 in
set_option maxRecDepth 100000 in
theorem weak_Step.arg1l (k : Nat) (A0 : Option Addr) (c0 : Nat) (l0 : List Int) (a1 : Int) (a2 : Int) (w : World) (hr0 : Kd.C (Kd.int .i64) w A0 l0.length l0) (hc0 : l0.length ≤ c0) (ha : a1 = 1) (hs : a2 < 1) :
    Calls Try.prog 13 #[.slice A0 l0.length c0, .int .i64 a1, .int .i64 a2] w fun e w' => e = .returned (.tuple #[.slice none 0 0, .int .i64 2]) ∧ Below w.heap.size w w' := by
  have b1 : (a1 == 1) = true := by rw [ha]; rfl
  have b3 : a2 < 1 := hs
  clear ha hs
  clear hr0 hc0
  go_enter Try.func13, Try.ntmps13
  go_wp2_with (go_at_call 16; refine (weak_rules.calls _).mono ?_; rintro e w1 ⟨rfl, hb8, hrb, hlt⟩; have HB1 := Aside0.mk hb8;  clear hb8 hrb hlt)
  go_ret2
  exact ⟨rfl, HB1.out⟩
set_option maxHeartbeats 2000000 in
set_option maxRecDepth 100000 in
theorem weak_Step.arg1g (k : Nat) (A0 : Option Addr) (c0 : Nat) (l0 : List Int) (a1 : Int) (a2 : Int) (w : World) (hr0 : Kd.C (Kd.int .i64) w A0 l0.length l0) (hc0 : l0.length ≤ c0) (ha : a1 = 1) (hs : 7 < a2) :
    Calls Try.prog 13 #[.slice A0 l0.length c0, .int .i64 a1, .int .i64 a2] w fun e w' => e = .returned (.tuple #[.slice none 0 0, .int .i64 2]) ∧ Below w.heap.size w w' := by
  have b1 : (a1 == 1) = true := by rw [ha]; rfl
  have b3 : decide (a2 < 1) = false := decide_eq_false (by omega)
  have b4 : 7 < a2 := hs
  clear ha hs
  clear hr0 hc0
  go_enter Try.func13, Try.ntmps13
  go_wp2_with (go_at_call 16; refine (weak_rules.calls _).mono ?_; rintro e w1 ⟨rfl, hb8, hrb, hlt⟩; have HB1 := Aside0.mk hb8;  clear hb8 hrb hlt)
  go_ret2
  exact ⟨rfl, HB1.out⟩
set_option maxHeartbeats 2000000 in
set_option maxRecDepth 100000 in
theorem weak_Step.arg2l (k : Nat) (A0 : Option Addr) (c0 : Nat) (l0 : List Int) (a1 : Int) (a2 : Int) (w : World) (hr0 : Kd.C (Kd.int .i64) w A0 l0.length l0) (hc0 : l0.length ≤ c0) (ha : a1 = 2) (hs : a2 < 1) :
    Calls Try.prog 13 #[.slice A0 l0.length c0, .int .i64 a1, .int .i64 a2] w fun e w' => e = .returned (.tuple #[.slice none 0 0, .int .i64 2]) ∧ Below w.heap.size w w' := by
  have b1 : (a1 == 1) = false := by rw [ha]; rfl
  have b2 : (a1 == 2) = true := by rw [ha]; rfl
  have b3 : a2 < 1 := hs
  clear ha hs
  clear hr0 hc0
  go_enter Try.func13, Try.ntmps13
  go_wp2_with (go_at_call 16; refine (weak_rules.calls _).mono ?_; rintro e w1 ⟨rfl, hb8, hrb, hlt⟩; have HB1 := Aside0.mk hb8;  clear hb8 hrb hlt)
  go_ret2
  exact ⟨rfl, HB1.out⟩
set_option maxHeartbeats 2000000 in
set_option maxRecDepth 100000 in
theorem weak_Step.arg2g (k : Nat) (A0 : Option Addr) (c0 : Nat) (l0 : List Int) (a1 : Int) (a2 : Int) (w : World) (hr0 : Kd.C (Kd.int .i64) w A0 l0.length l0) (hc0 : l0.length ≤ c0) (ha : a1 = 2) (hs : 7 < a2) :
    Calls Try.prog 13 #[.slice A0 l0.length c0, .int .i64 a1, .int .i64 a2] w fun e w' => e = .returned (.tuple #[.slice none 0 0, .int .i64 2]) ∧ Below w.heap.size w w' := by
  have b1 : (a1 == 1) = false := by rw [ha]; rfl
  have b2 : (a1 == 2) = true := by rw [ha]; rfl
  have b3 : decide (a2 < 1) = false := decide_eq_false (by omega)
  have b4 : 7 < a2 := hs
  clear ha hs
  clear hr0 hc0
  go_enter Try.func13, Try.ntmps13
  go_wp2_with (go_at_call 16; refine (weak_rules.calls _).mono ?_; rintro e w1 ⟨rfl, hb8, hrb, hlt⟩; have HB1 := Aside0.mk hb8;  clear hb8 hrb hlt)
  go_ret2
  exact ⟨rfl, HB1.out⟩
set_option maxHeartbeats 2000000 in
set_option maxRecDepth 100000 in
theorem weak_Step.form1n (k : Nat) (A0 : Option Addr) (c0 : Nat) (l0 : List Int) (a1 : Int) (a2 : Int) (w : World) (hr0 : Kd.C (Kd.int .i64) w A0 l0.length l0) (hc0 : l0.length ≤ c0) (ha : a1 = 1) (hs : 1 ≤ a2 ∧ a2 ≤ 7) (x : Int) (hmay : weak_may.f k l0 a1 = some x) (hx : x ≠ 0) :
    Calls Try.prog 13 #[.slice A0 l0.length c0, .int .i64 a1, .int .i64 a2] w fun e w' => e = .returned (.tuple #[.slice none 0 0, .int .i64 x]) ∧ Below w.heap.size w w' := by
  have HC := Aside0.mk (show ∀ w5, Below w.heap.size w w5 → Kd.C (Kd.int .i64) w5 A0 l0.length l0 from fun w5 h => Kd.C_below hr0 h)
  have HL0 := Aside0.mk hc0
  have HMAY := Aside0.mk hmay
  have hx' : (x != 0) = true := bne_iff_ne.mpr hx
  have b1 : (a1 == 1) = true := by rw [ha]; rfl
  have b3 : decide (a2 < 1) = false := decide_eq_false (by omega)
  have b4 : decide (7 < a2) = false := decide_eq_false (by omega)
  clear hr0 hc0 hmay hx ha hs
  go_enter Try.func13, Try.ntmps13
  go_wp2_with (first | (go_at_call 16; refine (weak_rules.calls _).mono ?_; rintro e w1 ⟨rfl, hb8, hrb, hlt⟩; have HB1 := Aside0.mk hb8;  clear hb8 hrb hlt) | (go_at_call 15; refine (weak_may.calls k A0 c0 l0 a1 x _ (HC.out _ HB1.out) HL0.out HMAY.out).mono ?_; rintro e w1 ⟨rfl, hd1⟩; have HB1 := Aside0.mk (below_step HB1.out (Drawn0.below hd1));  clear hd1))
  go_ret2
  exact ⟨rfl, HB1.out⟩
set_option maxHeartbeats 2000000 in
set_option maxRecDepth 100000 in
theorem weak_Step.form2n (k : Nat) (A0 : Option Addr) (c0 : Nat) (l0 : List Int) (a1 : Int) (a2 : Int) (w : World) (hr0 : Kd.C (Kd.int .i64) w A0 l0.length l0) (hc0 : l0.length ≤ c0) (ha : a1 = 2) (hs : 1 ≤ a2 ∧ a2 ≤ 7) (x : Int) (hmay : weak_may.f k l0 a1 = some x) (hx : x ≠ 0) :
    Calls Try.prog 13 #[.slice A0 l0.length c0, .int .i64 a1, .int .i64 a2] w fun e w' => e = .returned (.tuple #[.slice none 0 0, .int .i64 x]) ∧ Below w.heap.size w w' := by
  have HC := Aside0.mk (show ∀ w5, Below w.heap.size w w5 → Kd.C (Kd.int .i64) w5 A0 l0.length l0 from fun w5 h => Kd.C_below hr0 h)
  have HL0 := Aside0.mk hc0
  have HMAY := Aside0.mk hmay
  have hx' : (x != 0) = true := bne_iff_ne.mpr hx
  have b1 : (a1 == 1) = false := by rw [ha]; rfl
  have b2 : (a1 == 2) = true := by rw [ha]; rfl
  have b3 : decide (a2 < 1) = false := decide_eq_false (by omega)
  have b4 : decide (7 < a2) = false := decide_eq_false (by omega)
  clear hr0 hc0 hmay hx ha hs
  go_enter Try.func13, Try.ntmps13
  go_wp2_with (first | (go_at_call 16; refine (weak_rules.calls _).mono ?_; rintro e w1 ⟨rfl, hb8, hrb, hlt⟩; have HB1 := Aside0.mk hb8;  clear hb8 hrb hlt) | (go_at_call 15; refine (weak_may.calls k A0 c0 l0 a1 x _ (HC.out _ HB1.out) HL0.out HMAY.out).mono ?_; rintro e w1 ⟨rfl, hd1⟩; have HB1 := Aside0.mk (below_step HB1.out (Drawn0.below hd1));  clear hd1))
  go_ret2
  exact ⟨rfl, HB1.out⟩
set_option maxHeartbeats 2000000 in
set_option maxRecDepth 100000 in
theorem weak_Step.form0 (k : Nat) (A0 : Option Addr) (c0 : Nat) (l0 : List Int) (a1 : Int) (a2 : Int) (w : World) (hr0 : Kd.C (Kd.int .i64) w A0 l0.length l0) (hc0 : l0.length ≤ c0) (ha : a1 ≠ 1 ∧ a1 ≠ 2)  (x : Int) (hmay : weak_may.f k l0 a1 = some x) (hx : x ≠ 0) :
    Calls Try.prog 13 #[.slice A0 l0.length c0, .int .i64 a1, .int .i64 a2] w fun e w' => e = .returned (.tuple #[.slice none 0 0, .int .i64 x]) ∧ Below w.heap.size w w' := by
  have HC := Aside0.mk (show ∀ w5, Below w.heap.size w w5 → Kd.C (Kd.int .i64) w5 A0 l0.length l0 from fun w5 h => Kd.C_below hr0 h)
  have HL0 := Aside0.mk hc0
  have HMAY := Aside0.mk hmay
  have hx' : (x != 0) = true := bne_iff_ne.mpr hx
  have b1 : (a1 == 1) = false := beq_eq_false_iff_ne.mpr ha.1
  have b2 : (a1 == 2) = false := beq_eq_false_iff_ne.mpr ha.2
  clear hr0 hc0 hmay hx ha 
  go_enter Try.func13, Try.ntmps13
  go_wp2_with (first | (go_at_call 16; refine (weak_rules.calls _).mono ?_; rintro e w1 ⟨rfl, hb8, hrb, hlt⟩; have HB1 := Aside0.mk hb8;  clear hb8 hrb hlt) | (go_at_call 15; refine (weak_may.calls k A0 c0 l0 a1 x _ (HC.out _ HB1.out) HL0.out HMAY.out).mono ?_; rintro e w1 ⟨rfl, hd1⟩; have HB1 := Aside0.mk (below_step HB1.out (Drawn0.below hd1));  clear hd1))
  go_ret2
  exact ⟨rfl, HB1.out⟩
set_option maxHeartbeats 4000000 in
set_option maxRecDepth 100000 in
theorem weak_Step.good0_1 (k : Nat) (A0 : Option Addr) (c0 : Nat) (l0 : List Int) (w : World) (hr0 : Kd.C (Kd.int .i64) w A0 l0.length l0) (hc0 : l0.length ≤ c0) (l1 : List Int) (hm : l0.length < 17592186044416) (hmay : weak_may.f k l0 1 = some 0) (h : weak_marks.f k l0 1 = some l1) :
    Calls Try.prog 13 #[.slice A0 l0.length c0, .int .i64 1, .int .i64 1] w fun e w' => ∃ v0_ : Value, e = .returned (.tuple #[v0_, .int .i64 0]) ∧ Kd.R (Kd.int .i64) 3 w' w.heap.size (fun _ => True) v0_ l1 ∧ Below w.heap.size w w' := by
  have HC := Aside0.mk (show ∀ w5, Below w.heap.size w w5 → Kd.C (Kd.int .i64) w5 A0 l0.length l0 from fun w5 h => Kd.C_below hr0 h)
  have HM := Aside0.mk hm
  have HL0 := Aside0.mk hc0
  have HMAY := Aside0.mk hmay
  have AH := Aside0.mk h
  clear hr0 hc0 hm hmay h
  go_enter Try.func13, Try.ntmps13
  go_wp2_with (first | (go_at_call 16; refine (weak_rules.calls _).mono ?_; rintro e w8 ⟨rfl, hb8, hrb, hlt⟩; have HB1 := Aside0.mk hb8; have HRB := Aside0.mk hrb; have HLT := Aside0.mk hlt; clear hb8 hrb hlt) | (go_at_call 15; refine (weak_may.calls k A0 c0 l0 1 0 _ (HC.out _ HB1.out) HL0.out HMAY.out).mono ?_; rintro e w1 ⟨rfl, hd1⟩; have HB1 := Aside0.mk (below_step HB1.out (Drawn0.below hd1)); have HRB := Aside0.mk (blk_below HRB.out (Drawn0.below hd1)); have HLT := Aside0.mk (Nat.lt_of_lt_of_le HLT.out (Drawn0.below hd1).size);  clear hd1) | ((with_reducible refine gate_dst (N := 34) rfl ?_); refine Kd.R_lit (Kd.int .i64) w.heap.size 3 ?hg (N := 34) ?hd (w0 := w) (xs := ([] : List Int)) (inner := []) (ok := fun _ => True) (okp := fun _ => True) ?hr ?hp (fun _ hk => hk) trivial HB1.out HB1.out.size (by simp) ?_; (case hd => rfl); (case hg => rfl); (case hr => first | (go_simp; done) | (go_simp; rfl)); (case hp => exact (Reps.none _ _)); intro v5 w5 ho5 hb5 hg_ hnew_; have HG5B := Aside0.mk (show ∀ k, v5.ownBlock = some k → w1.heap.size ≤ k from fun k hk => by obtain ⟨b, hb, hle⟩ := hnew_; rw [hb] at hk; injection hk with hk; omega); clear hnew_; have HO5 := Aside0.mk ho5; have HB5 := Aside0.mk hb5; have HG5 := Aside0.mk hg_; clear ho5 hb5 hg_) | ((with_reducible refine gate_builtin (b := .append) (xs := #[.tmp 34, .tmp 35]) rfl ?_); at_builtin; refine Kd.R_append_rows (Kd.int .i64) (w0 := w) w.heap.size rfl (.tmp 34) (.tmp 35) 22 3 (.int .i64 0) 8 rfl Try.underlying22 info3 rfl (by decide) (by omega) v5 [] l0 _ _ _ (fun _ => True) (fun _ => False) rfl rfl ?aO ?aR (fun _ _ h => h) (fun _ h => h.elim) ?aF ?aB ?aS ?aL ?_; (case aR => exact HC.out _ (HB5.out)); (case aB => exact HB5.out); (case aF => exact (fun _ _ => trivial)); (case aO => exact HO5.out); (case aS => exact HB5.out.size); (case aL => have := HM.out; simp; omega); intro v7 w7 ho7 hb7 hg7 hat7; rw [List.nil_append] at ho7; have HO7 := Aside0.mk ho7; have HB7 := Aside0.mk hb7; have HG7 := Aside0.mk hg7; clear ho7 hb7 hg7 hat7; have HRB := Aside0.mk (blk_grown (blk_grown HRB.out HG5.out (by simp)) HG7.out (fun e => Nat.lt_irrefl _ (Nat.lt_of_lt_of_le HLT.out (HG5B.out _ e.symm)))); have hcj := blk_cell HRB.out 0) | (go_at_call 20; refine (weak_rules.r0 k v7 _ _ _ w _ HB7.out HO7.out AH.out).mono ?_; clear HO7 HB7 AH; rintro e w7 ⟨rfl, ho7, hb7, hkp⟩; have HO7 := Aside0.mk ho7; have HB7 := Aside0.mk hb7; clear ho7 hb7 hkp))
  go_ret2
  exact ⟨_, rfl, HO7.out, HB7.out⟩
set_option maxHeartbeats 4000000 in
set_option maxRecDepth 100000 in
theorem weak_Step.good0_2 (k : Nat) (A0 : Option Addr) (c0 : Nat) (l0 : List Int) (w : World) (hr0 : Kd.C (Kd.int .i64) w A0 l0.length l0) (hc0 : l0.length ≤ c0) (l1 : List Int) (hm : l0.length < 17592186044416) (hmay : weak_may.f k l0 2 = some 0) (h : weak_marks.f k l0 2 = some l1) :
    Calls Try.prog 13 #[.slice A0 l0.length c0, .int .i64 2, .int .i64 1] w fun e w' => ∃ v0_ : Value, e = .returned (.tuple #[v0_, .int .i64 0]) ∧ Kd.R (Kd.int .i64) 3 w' w.heap.size (fun _ => True) v0_ l1 ∧ Below w.heap.size w w' := by
  have HC := Aside0.mk (show ∀ w5, Below w.heap.size w w5 → Kd.C (Kd.int .i64) w5 A0 l0.length l0 from fun w5 h => Kd.C_below hr0 h)
  have HM := Aside0.mk hm
  have HL0 := Aside0.mk hc0
  have HMAY := Aside0.mk hmay
  have AH := Aside0.mk h
  clear hr0 hc0 hm hmay h
  go_enter Try.func13, Try.ntmps13
  go_wp2_with (first | (go_at_call 16; refine (weak_rules.calls _).mono ?_; rintro e w8 ⟨rfl, hb8, hrb, hlt⟩; have HB1 := Aside0.mk hb8; have HRB := Aside0.mk hrb; have HLT := Aside0.mk hlt; clear hb8 hrb hlt) | (go_at_call 15; refine (weak_may.calls k A0 c0 l0 2 0 _ (HC.out _ HB1.out) HL0.out HMAY.out).mono ?_; rintro e w1 ⟨rfl, hd1⟩; have HB1 := Aside0.mk (below_step HB1.out (Drawn0.below hd1)); have HRB := Aside0.mk (blk_below HRB.out (Drawn0.below hd1)); have HLT := Aside0.mk (Nat.lt_of_lt_of_le HLT.out (Drawn0.below hd1).size);  clear hd1) | ((with_reducible refine gate_dst (N := 34) rfl ?_); refine Kd.R_lit (Kd.int .i64) w.heap.size 3 ?hg (N := 34) ?hd (w0 := w) (xs := ([] : List Int)) (inner := []) (ok := fun _ => True) (okp := fun _ => True) ?hr ?hp (fun _ hk => hk) trivial HB1.out HB1.out.size (by simp) ?_; (case hd => rfl); (case hg => rfl); (case hr => first | (go_simp; done) | (go_simp; rfl)); (case hp => exact (Reps.none _ _)); intro v5 w5 ho5 hb5 hg_ hnew_; have HG5B := Aside0.mk (show ∀ k, v5.ownBlock = some k → w1.heap.size ≤ k from fun k hk => by obtain ⟨b, hb, hle⟩ := hnew_; rw [hb] at hk; injection hk with hk; omega); clear hnew_; have HO5 := Aside0.mk ho5; have HB5 := Aside0.mk hb5; have HG5 := Aside0.mk hg_; clear ho5 hb5 hg_) | ((with_reducible refine gate_builtin (b := .append) (xs := #[.tmp 34, .tmp 35]) rfl ?_); at_builtin; refine Kd.R_append_rows (Kd.int .i64) (w0 := w) w.heap.size rfl (.tmp 34) (.tmp 35) 22 3 (.int .i64 0) 8 rfl Try.underlying22 info3 rfl (by decide) (by omega) v5 [] l0 _ _ _ (fun _ => True) (fun _ => False) rfl rfl ?aO ?aR (fun _ _ h => h) (fun _ h => h.elim) ?aF ?aB ?aS ?aL ?_; (case aR => exact HC.out _ (HB5.out)); (case aB => exact HB5.out); (case aF => exact (fun _ _ => trivial)); (case aO => exact HO5.out); (case aS => exact HB5.out.size); (case aL => have := HM.out; simp; omega); intro v7 w7 ho7 hb7 hg7 hat7; rw [List.nil_append] at ho7; have HO7 := Aside0.mk ho7; have HB7 := Aside0.mk hb7; have HG7 := Aside0.mk hg7; clear ho7 hb7 hg7 hat7; have HRB := Aside0.mk (blk_grown (blk_grown HRB.out HG5.out (by simp)) HG7.out (fun e => Nat.lt_irrefl _ (Nat.lt_of_lt_of_le HLT.out (HG5B.out _ e.symm)))); have hcj := blk_cell HRB.out 0) | (go_at_call 20; refine (weak_rules.r0 k v7 _ _ _ w _ HB7.out HO7.out AH.out).mono ?_; clear HO7 HB7 AH; rintro e w7 ⟨rfl, ho7, hb7, hkp⟩; have HO7 := Aside0.mk ho7; have HB7 := Aside0.mk hb7; clear ho7 hb7 hkp))
  go_ret2
  exact ⟨_, rfl, HO7.out, HB7.out⟩
set_option maxHeartbeats 4000000 in
set_option maxRecDepth 100000 in
theorem weak_Step.good1_1 (k : Nat) (A0 : Option Addr) (c0 : Nat) (l0 : List Int) (w : World) (hr0 : Kd.C (Kd.int .i64) w A0 l0.length l0) (hc0 : l0.length ≤ c0) (l1 : List Int) (hm : l0.length < 17592186044416) (hmay : weak_may.f k l0 1 = some 0) (h : weak_arabic.f l0 1 = some l1) :
    Calls Try.prog 13 #[.slice A0 l0.length c0, .int .i64 1, .int .i64 2] w fun e w' => ∃ v0_ : Value, e = .returned (.tuple #[v0_, .int .i64 0]) ∧ Kd.R (Kd.int .i64) 3 w' w.heap.size (fun _ => True) v0_ l1 ∧ Below w.heap.size w w' := by
  have HC := Aside0.mk (show ∀ w5, Below w.heap.size w w5 → Kd.C (Kd.int .i64) w5 A0 l0.length l0 from fun w5 h => Kd.C_below hr0 h)
  have HM := Aside0.mk hm
  have HL0 := Aside0.mk hc0
  have HMAY := Aside0.mk hmay
  have AH := Aside0.mk h
  clear hr0 hc0 hm hmay h
  go_enter Try.func13, Try.ntmps13
  go_wp2_with (first | (go_at_call 16; refine (weak_rules.calls _).mono ?_; rintro e w8 ⟨rfl, hb8, hrb, hlt⟩; have HB1 := Aside0.mk hb8; have HRB := Aside0.mk hrb; have HLT := Aside0.mk hlt; clear hb8 hrb hlt) | (go_at_call 15; refine (weak_may.calls k A0 c0 l0 1 0 _ (HC.out _ HB1.out) HL0.out HMAY.out).mono ?_; rintro e w1 ⟨rfl, hd1⟩; have HB1 := Aside0.mk (below_step HB1.out (Drawn0.below hd1)); have HRB := Aside0.mk (blk_below HRB.out (Drawn0.below hd1)); have HLT := Aside0.mk (Nat.lt_of_lt_of_le HLT.out (Drawn0.below hd1).size);  clear hd1) | ((with_reducible refine gate_dst (N := 34) rfl ?_); refine Kd.R_lit (Kd.int .i64) w.heap.size 3 ?hg (N := 34) ?hd (w0 := w) (xs := ([] : List Int)) (inner := []) (ok := fun _ => True) (okp := fun _ => True) ?hr ?hp (fun _ hk => hk) trivial HB1.out HB1.out.size (by simp) ?_; (case hd => rfl); (case hg => rfl); (case hr => first | (go_simp; done) | (go_simp; rfl)); (case hp => exact (Reps.none _ _)); intro v5 w5 ho5 hb5 hg_ hnew_; have HG5B := Aside0.mk (show ∀ k, v5.ownBlock = some k → w1.heap.size ≤ k from fun k hk => by obtain ⟨b, hb, hle⟩ := hnew_; rw [hb] at hk; injection hk with hk; omega); clear hnew_; have HO5 := Aside0.mk ho5; have HB5 := Aside0.mk hb5; have HG5 := Aside0.mk hg_; clear ho5 hb5 hg_) | ((with_reducible refine gate_builtin (b := .append) (xs := #[.tmp 34, .tmp 35]) rfl ?_); at_builtin; refine Kd.R_append_rows (Kd.int .i64) (w0 := w) w.heap.size rfl (.tmp 34) (.tmp 35) 22 3 (.int .i64 0) 8 rfl Try.underlying22 info3 rfl (by decide) (by omega) v5 [] l0 _ _ _ (fun _ => True) (fun _ => False) rfl rfl ?aO ?aR (fun _ _ h => h) (fun _ h => h.elim) ?aF ?aB ?aS ?aL ?_; (case aR => exact HC.out _ (HB5.out)); (case aB => exact HB5.out); (case aF => exact (fun _ _ => trivial)); (case aO => exact HO5.out); (case aS => exact HB5.out.size); (case aL => have := HM.out; simp; omega); intro v7 w7 ho7 hb7 hg7 hat7; rw [List.nil_append] at ho7; have HO7 := Aside0.mk ho7; have HB7 := Aside0.mk hb7; have HG7 := Aside0.mk hg7; clear ho7 hb7 hg7 hat7; have HRB := Aside0.mk (blk_grown (blk_grown HRB.out HG5.out (by simp)) HG7.out (fun e => Nat.lt_irrefl _ (Nat.lt_of_lt_of_le HLT.out (HG5B.out _ e.symm)))); have hcj := blk_cell HRB.out 1) | (go_at_call 21; refine (weak_rules.r1 k v7 _ _ _ w _ HB7.out HO7.out AH.out).mono ?_; clear HO7 HB7 AH; rintro e w7 ⟨rfl, ho7, hb7, hkp⟩; have HO7 := Aside0.mk ho7; have HB7 := Aside0.mk hb7; clear ho7 hb7 hkp))
  go_ret2
  exact ⟨_, rfl, HO7.out, HB7.out⟩
set_option maxHeartbeats 4000000 in
set_option maxRecDepth 100000 in
theorem weak_Step.good1_2 (k : Nat) (A0 : Option Addr) (c0 : Nat) (l0 : List Int) (w : World) (hr0 : Kd.C (Kd.int .i64) w A0 l0.length l0) (hc0 : l0.length ≤ c0) (l1 : List Int) (hm : l0.length < 17592186044416) (hmay : weak_may.f k l0 2 = some 0) (h : weak_arabic.f l0 2 = some l1) :
    Calls Try.prog 13 #[.slice A0 l0.length c0, .int .i64 2, .int .i64 2] w fun e w' => ∃ v0_ : Value, e = .returned (.tuple #[v0_, .int .i64 0]) ∧ Kd.R (Kd.int .i64) 3 w' w.heap.size (fun _ => True) v0_ l1 ∧ Below w.heap.size w w' := by
  have HC := Aside0.mk (show ∀ w5, Below w.heap.size w w5 → Kd.C (Kd.int .i64) w5 A0 l0.length l0 from fun w5 h => Kd.C_below hr0 h)
  have HM := Aside0.mk hm
  have HL0 := Aside0.mk hc0
  have HMAY := Aside0.mk hmay
  have AH := Aside0.mk h
  clear hr0 hc0 hm hmay h
  go_enter Try.func13, Try.ntmps13
  go_wp2_with (first | (go_at_call 16; refine (weak_rules.calls _).mono ?_; rintro e w8 ⟨rfl, hb8, hrb, hlt⟩; have HB1 := Aside0.mk hb8; have HRB := Aside0.mk hrb; have HLT := Aside0.mk hlt; clear hb8 hrb hlt) | (go_at_call 15; refine (weak_may.calls k A0 c0 l0 2 0 _ (HC.out _ HB1.out) HL0.out HMAY.out).mono ?_; rintro e w1 ⟨rfl, hd1⟩; have HB1 := Aside0.mk (below_step HB1.out (Drawn0.below hd1)); have HRB := Aside0.mk (blk_below HRB.out (Drawn0.below hd1)); have HLT := Aside0.mk (Nat.lt_of_lt_of_le HLT.out (Drawn0.below hd1).size);  clear hd1) | ((with_reducible refine gate_dst (N := 34) rfl ?_); refine Kd.R_lit (Kd.int .i64) w.heap.size 3 ?hg (N := 34) ?hd (w0 := w) (xs := ([] : List Int)) (inner := []) (ok := fun _ => True) (okp := fun _ => True) ?hr ?hp (fun _ hk => hk) trivial HB1.out HB1.out.size (by simp) ?_; (case hd => rfl); (case hg => rfl); (case hr => first | (go_simp; done) | (go_simp; rfl)); (case hp => exact (Reps.none _ _)); intro v5 w5 ho5 hb5 hg_ hnew_; have HG5B := Aside0.mk (show ∀ k, v5.ownBlock = some k → w1.heap.size ≤ k from fun k hk => by obtain ⟨b, hb, hle⟩ := hnew_; rw [hb] at hk; injection hk with hk; omega); clear hnew_; have HO5 := Aside0.mk ho5; have HB5 := Aside0.mk hb5; have HG5 := Aside0.mk hg_; clear ho5 hb5 hg_) | ((with_reducible refine gate_builtin (b := .append) (xs := #[.tmp 34, .tmp 35]) rfl ?_); at_builtin; refine Kd.R_append_rows (Kd.int .i64) (w0 := w) w.heap.size rfl (.tmp 34) (.tmp 35) 22 3 (.int .i64 0) 8 rfl Try.underlying22 info3 rfl (by decide) (by omega) v5 [] l0 _ _ _ (fun _ => True) (fun _ => False) rfl rfl ?aO ?aR (fun _ _ h => h) (fun _ h => h.elim) ?aF ?aB ?aS ?aL ?_; (case aR => exact HC.out _ (HB5.out)); (case aB => exact HB5.out); (case aF => exact (fun _ _ => trivial)); (case aO => exact HO5.out); (case aS => exact HB5.out.size); (case aL => have := HM.out; simp; omega); intro v7 w7 ho7 hb7 hg7 hat7; rw [List.nil_append] at ho7; have HO7 := Aside0.mk ho7; have HB7 := Aside0.mk hb7; have HG7 := Aside0.mk hg7; clear ho7 hb7 hg7 hat7; have HRB := Aside0.mk (blk_grown (blk_grown HRB.out HG5.out (by simp)) HG7.out (fun e => Nat.lt_irrefl _ (Nat.lt_of_lt_of_le HLT.out (HG5B.out _ e.symm)))); have hcj := blk_cell HRB.out 1) | (go_at_call 21; refine (weak_rules.r1 k v7 _ _ _ w _ HB7.out HO7.out AH.out).mono ?_; clear HO7 HB7 AH; rintro e w7 ⟨rfl, ho7, hb7, hkp⟩; have HO7 := Aside0.mk ho7; have HB7 := Aside0.mk hb7; clear ho7 hb7 hkp))
  go_ret2
  exact ⟨_, rfl, HO7.out, HB7.out⟩
set_option maxHeartbeats 4000000 in
set_option maxRecDepth 100000 in
theorem weak_Step.good2_1 (k : Nat) (A0 : Option Addr) (c0 : Nat) (l0 : List Int) (w : World) (hr0 : Kd.C (Kd.int .i64) w A0 l0.length l0) (hc0 : l0.length ≤ c0) (l1 : List Int) (hm : l0.length < 17592186044416) (hmay : weak_may.f k l0 1 = some 0) (h : weak_letters.f k l0 1 = some l1) :
    Calls Try.prog 13 #[.slice A0 l0.length c0, .int .i64 1, .int .i64 3] w fun e w' => ∃ v0_ : Value, e = .returned (.tuple #[v0_, .int .i64 0]) ∧ Kd.R (Kd.int .i64) 3 w' w.heap.size (fun _ => True) v0_ l1 ∧ Below w.heap.size w w' := by
  have HC := Aside0.mk (show ∀ w5, Below w.heap.size w w5 → Kd.C (Kd.int .i64) w5 A0 l0.length l0 from fun w5 h => Kd.C_below hr0 h)
  have HM := Aside0.mk hm
  have HL0 := Aside0.mk hc0
  have HMAY := Aside0.mk hmay
  have AH := Aside0.mk h
  clear hr0 hc0 hm hmay h
  go_enter Try.func13, Try.ntmps13
  go_wp2_with (first | (go_at_call 16; refine (weak_rules.calls _).mono ?_; rintro e w8 ⟨rfl, hb8, hrb, hlt⟩; have HB1 := Aside0.mk hb8; have HRB := Aside0.mk hrb; have HLT := Aside0.mk hlt; clear hb8 hrb hlt) | (go_at_call 15; refine (weak_may.calls k A0 c0 l0 1 0 _ (HC.out _ HB1.out) HL0.out HMAY.out).mono ?_; rintro e w1 ⟨rfl, hd1⟩; have HB1 := Aside0.mk (below_step HB1.out (Drawn0.below hd1)); have HRB := Aside0.mk (blk_below HRB.out (Drawn0.below hd1)); have HLT := Aside0.mk (Nat.lt_of_lt_of_le HLT.out (Drawn0.below hd1).size);  clear hd1) | ((with_reducible refine gate_dst (N := 34) rfl ?_); refine Kd.R_lit (Kd.int .i64) w.heap.size 3 ?hg (N := 34) ?hd (w0 := w) (xs := ([] : List Int)) (inner := []) (ok := fun _ => True) (okp := fun _ => True) ?hr ?hp (fun _ hk => hk) trivial HB1.out HB1.out.size (by simp) ?_; (case hd => rfl); (case hg => rfl); (case hr => first | (go_simp; done) | (go_simp; rfl)); (case hp => exact (Reps.none _ _)); intro v5 w5 ho5 hb5 hg_ hnew_; have HG5B := Aside0.mk (show ∀ k, v5.ownBlock = some k → w1.heap.size ≤ k from fun k hk => by obtain ⟨b, hb, hle⟩ := hnew_; rw [hb] at hk; injection hk with hk; omega); clear hnew_; have HO5 := Aside0.mk ho5; have HB5 := Aside0.mk hb5; have HG5 := Aside0.mk hg_; clear ho5 hb5 hg_) | ((with_reducible refine gate_builtin (b := .append) (xs := #[.tmp 34, .tmp 35]) rfl ?_); at_builtin; refine Kd.R_append_rows (Kd.int .i64) (w0 := w) w.heap.size rfl (.tmp 34) (.tmp 35) 22 3 (.int .i64 0) 8 rfl Try.underlying22 info3 rfl (by decide) (by omega) v5 [] l0 _ _ _ (fun _ => True) (fun _ => False) rfl rfl ?aO ?aR (fun _ _ h => h) (fun _ h => h.elim) ?aF ?aB ?aS ?aL ?_; (case aR => exact HC.out _ (HB5.out)); (case aB => exact HB5.out); (case aF => exact (fun _ _ => trivial)); (case aO => exact HO5.out); (case aS => exact HB5.out.size); (case aL => have := HM.out; simp; omega); intro v7 w7 ho7 hb7 hg7 hat7; rw [List.nil_append] at ho7; have HO7 := Aside0.mk ho7; have HB7 := Aside0.mk hb7; have HG7 := Aside0.mk hg7; clear ho7 hb7 hg7 hat7; have HRB := Aside0.mk (blk_grown (blk_grown HRB.out HG5.out (by simp)) HG7.out (fun e => Nat.lt_irrefl _ (Nat.lt_of_lt_of_le HLT.out (HG5B.out _ e.symm)))); have hcj := blk_cell HRB.out 2) | (go_at_call 22; refine (weak_rules.r2 k v7 _ _ _ w _ HB7.out HO7.out AH.out).mono ?_; clear HO7 HB7 AH; rintro e w7 ⟨rfl, ho7, hb7, hkp⟩; have HO7 := Aside0.mk ho7; have HB7 := Aside0.mk hb7; clear ho7 hb7 hkp))
  go_ret2
  exact ⟨_, rfl, HO7.out, HB7.out⟩
set_option maxHeartbeats 4000000 in
set_option maxRecDepth 100000 in
theorem weak_Step.good2_2 (k : Nat) (A0 : Option Addr) (c0 : Nat) (l0 : List Int) (w : World) (hr0 : Kd.C (Kd.int .i64) w A0 l0.length l0) (hc0 : l0.length ≤ c0) (l1 : List Int) (hm : l0.length < 17592186044416) (hmay : weak_may.f k l0 2 = some 0) (h : weak_letters.f k l0 2 = some l1) :
    Calls Try.prog 13 #[.slice A0 l0.length c0, .int .i64 2, .int .i64 3] w fun e w' => ∃ v0_ : Value, e = .returned (.tuple #[v0_, .int .i64 0]) ∧ Kd.R (Kd.int .i64) 3 w' w.heap.size (fun _ => True) v0_ l1 ∧ Below w.heap.size w w' := by
  have HC := Aside0.mk (show ∀ w5, Below w.heap.size w w5 → Kd.C (Kd.int .i64) w5 A0 l0.length l0 from fun w5 h => Kd.C_below hr0 h)
  have HM := Aside0.mk hm
  have HL0 := Aside0.mk hc0
  have HMAY := Aside0.mk hmay
  have AH := Aside0.mk h
  clear hr0 hc0 hm hmay h
  go_enter Try.func13, Try.ntmps13
  go_wp2_with (first | (go_at_call 16; refine (weak_rules.calls _).mono ?_; rintro e w8 ⟨rfl, hb8, hrb, hlt⟩; have HB1 := Aside0.mk hb8; have HRB := Aside0.mk hrb; have HLT := Aside0.mk hlt; clear hb8 hrb hlt) | (go_at_call 15; refine (weak_may.calls k A0 c0 l0 2 0 _ (HC.out _ HB1.out) HL0.out HMAY.out).mono ?_; rintro e w1 ⟨rfl, hd1⟩; have HB1 := Aside0.mk (below_step HB1.out (Drawn0.below hd1)); have HRB := Aside0.mk (blk_below HRB.out (Drawn0.below hd1)); have HLT := Aside0.mk (Nat.lt_of_lt_of_le HLT.out (Drawn0.below hd1).size);  clear hd1) | ((with_reducible refine gate_dst (N := 34) rfl ?_); refine Kd.R_lit (Kd.int .i64) w.heap.size 3 ?hg (N := 34) ?hd (w0 := w) (xs := ([] : List Int)) (inner := []) (ok := fun _ => True) (okp := fun _ => True) ?hr ?hp (fun _ hk => hk) trivial HB1.out HB1.out.size (by simp) ?_; (case hd => rfl); (case hg => rfl); (case hr => first | (go_simp; done) | (go_simp; rfl)); (case hp => exact (Reps.none _ _)); intro v5 w5 ho5 hb5 hg_ hnew_; have HG5B := Aside0.mk (show ∀ k, v5.ownBlock = some k → w1.heap.size ≤ k from fun k hk => by obtain ⟨b, hb, hle⟩ := hnew_; rw [hb] at hk; injection hk with hk; omega); clear hnew_; have HO5 := Aside0.mk ho5; have HB5 := Aside0.mk hb5; have HG5 := Aside0.mk hg_; clear ho5 hb5 hg_) | ((with_reducible refine gate_builtin (b := .append) (xs := #[.tmp 34, .tmp 35]) rfl ?_); at_builtin; refine Kd.R_append_rows (Kd.int .i64) (w0 := w) w.heap.size rfl (.tmp 34) (.tmp 35) 22 3 (.int .i64 0) 8 rfl Try.underlying22 info3 rfl (by decide) (by omega) v5 [] l0 _ _ _ (fun _ => True) (fun _ => False) rfl rfl ?aO ?aR (fun _ _ h => h) (fun _ h => h.elim) ?aF ?aB ?aS ?aL ?_; (case aR => exact HC.out _ (HB5.out)); (case aB => exact HB5.out); (case aF => exact (fun _ _ => trivial)); (case aO => exact HO5.out); (case aS => exact HB5.out.size); (case aL => have := HM.out; simp; omega); intro v7 w7 ho7 hb7 hg7 hat7; rw [List.nil_append] at ho7; have HO7 := Aside0.mk ho7; have HB7 := Aside0.mk hb7; have HG7 := Aside0.mk hg7; clear ho7 hb7 hg7 hat7; have HRB := Aside0.mk (blk_grown (blk_grown HRB.out HG5.out (by simp)) HG7.out (fun e => Nat.lt_irrefl _ (Nat.lt_of_lt_of_le HLT.out (HG5B.out _ e.symm)))); have hcj := blk_cell HRB.out 2) | (go_at_call 22; refine (weak_rules.r2 k v7 _ _ _ w _ HB7.out HO7.out AH.out).mono ?_; clear HO7 HB7 AH; rintro e w7 ⟨rfl, ho7, hb7, hkp⟩; have HO7 := Aside0.mk ho7; have HB7 := Aside0.mk hb7; clear ho7 hb7 hkp))
  go_ret2
  exact ⟨_, rfl, HO7.out, HB7.out⟩
set_option maxHeartbeats 4000000 in
set_option maxRecDepth 100000 in
theorem weak_Step.good3_1 (k : Nat) (A0 : Option Addr) (c0 : Nat) (l0 : List Int) (w : World) (hr0 : Kd.C (Kd.int .i64) w A0 l0.length l0) (hc0 : l0.length ≤ c0) (l1 : List Int) (hm : l0.length < 17592186044416) (hmay : weak_may.f k l0 1 = some 0) (h : weak_single.f k l0 1 = some l1) :
    Calls Try.prog 13 #[.slice A0 l0.length c0, .int .i64 1, .int .i64 4] w fun e w' => ∃ v0_ : Value, e = .returned (.tuple #[v0_, .int .i64 0]) ∧ Kd.R (Kd.int .i64) 3 w' w.heap.size (fun _ => True) v0_ l1 ∧ Below w.heap.size w w' := by
  have HC := Aside0.mk (show ∀ w5, Below w.heap.size w w5 → Kd.C (Kd.int .i64) w5 A0 l0.length l0 from fun w5 h => Kd.C_below hr0 h)
  have HM := Aside0.mk hm
  have HL0 := Aside0.mk hc0
  have HMAY := Aside0.mk hmay
  have AH := Aside0.mk h
  clear hr0 hc0 hm hmay h
  go_enter Try.func13, Try.ntmps13
  go_wp2_with (first | (go_at_call 16; refine (weak_rules.calls _).mono ?_; rintro e w8 ⟨rfl, hb8, hrb, hlt⟩; have HB1 := Aside0.mk hb8; have HRB := Aside0.mk hrb; have HLT := Aside0.mk hlt; clear hb8 hrb hlt) | (go_at_call 15; refine (weak_may.calls k A0 c0 l0 1 0 _ (HC.out _ HB1.out) HL0.out HMAY.out).mono ?_; rintro e w1 ⟨rfl, hd1⟩; have HB1 := Aside0.mk (below_step HB1.out (Drawn0.below hd1)); have HRB := Aside0.mk (blk_below HRB.out (Drawn0.below hd1)); have HLT := Aside0.mk (Nat.lt_of_lt_of_le HLT.out (Drawn0.below hd1).size);  clear hd1) | ((with_reducible refine gate_dst (N := 34) rfl ?_); refine Kd.R_lit (Kd.int .i64) w.heap.size 3 ?hg (N := 34) ?hd (w0 := w) (xs := ([] : List Int)) (inner := []) (ok := fun _ => True) (okp := fun _ => True) ?hr ?hp (fun _ hk => hk) trivial HB1.out HB1.out.size (by simp) ?_; (case hd => rfl); (case hg => rfl); (case hr => first | (go_simp; done) | (go_simp; rfl)); (case hp => exact (Reps.none _ _)); intro v5 w5 ho5 hb5 hg_ hnew_; have HG5B := Aside0.mk (show ∀ k, v5.ownBlock = some k → w1.heap.size ≤ k from fun k hk => by obtain ⟨b, hb, hle⟩ := hnew_; rw [hb] at hk; injection hk with hk; omega); clear hnew_; have HO5 := Aside0.mk ho5; have HB5 := Aside0.mk hb5; have HG5 := Aside0.mk hg_; clear ho5 hb5 hg_) | ((with_reducible refine gate_builtin (b := .append) (xs := #[.tmp 34, .tmp 35]) rfl ?_); at_builtin; refine Kd.R_append_rows (Kd.int .i64) (w0 := w) w.heap.size rfl (.tmp 34) (.tmp 35) 22 3 (.int .i64 0) 8 rfl Try.underlying22 info3 rfl (by decide) (by omega) v5 [] l0 _ _ _ (fun _ => True) (fun _ => False) rfl rfl ?aO ?aR (fun _ _ h => h) (fun _ h => h.elim) ?aF ?aB ?aS ?aL ?_; (case aR => exact HC.out _ (HB5.out)); (case aB => exact HB5.out); (case aF => exact (fun _ _ => trivial)); (case aO => exact HO5.out); (case aS => exact HB5.out.size); (case aL => have := HM.out; simp; omega); intro v7 w7 ho7 hb7 hg7 hat7; rw [List.nil_append] at ho7; have HO7 := Aside0.mk ho7; have HB7 := Aside0.mk hb7; have HG7 := Aside0.mk hg7; clear ho7 hb7 hg7 hat7; have HRB := Aside0.mk (blk_grown (blk_grown HRB.out HG5.out (by simp)) HG7.out (fun e => Nat.lt_irrefl _ (Nat.lt_of_lt_of_le HLT.out (HG5B.out _ e.symm)))); have hcj := blk_cell HRB.out 3) | (go_at_call 23; refine (weak_rules.r3 k v7 _ _ _ w _ HB7.out HO7.out AH.out).mono ?_; clear HO7 HB7 AH; rintro e w7 ⟨rfl, ho7, hb7, hkp⟩; have HO7 := Aside0.mk ho7; have HB7 := Aside0.mk hb7; clear ho7 hb7 hkp))
  go_ret2
  exact ⟨_, rfl, HO7.out, HB7.out⟩
set_option maxHeartbeats 4000000 in
set_option maxRecDepth 100000 in
theorem weak_Step.good3_2 (k : Nat) (A0 : Option Addr) (c0 : Nat) (l0 : List Int) (w : World) (hr0 : Kd.C (Kd.int .i64) w A0 l0.length l0) (hc0 : l0.length ≤ c0) (l1 : List Int) (hm : l0.length < 17592186044416) (hmay : weak_may.f k l0 2 = some 0) (h : weak_single.f k l0 2 = some l1) :
    Calls Try.prog 13 #[.slice A0 l0.length c0, .int .i64 2, .int .i64 4] w fun e w' => ∃ v0_ : Value, e = .returned (.tuple #[v0_, .int .i64 0]) ∧ Kd.R (Kd.int .i64) 3 w' w.heap.size (fun _ => True) v0_ l1 ∧ Below w.heap.size w w' := by
  have HC := Aside0.mk (show ∀ w5, Below w.heap.size w w5 → Kd.C (Kd.int .i64) w5 A0 l0.length l0 from fun w5 h => Kd.C_below hr0 h)
  have HM := Aside0.mk hm
  have HL0 := Aside0.mk hc0
  have HMAY := Aside0.mk hmay
  have AH := Aside0.mk h
  clear hr0 hc0 hm hmay h
  go_enter Try.func13, Try.ntmps13
  go_wp2_with (first | (go_at_call 16; refine (weak_rules.calls _).mono ?_; rintro e w8 ⟨rfl, hb8, hrb, hlt⟩; have HB1 := Aside0.mk hb8; have HRB := Aside0.mk hrb; have HLT := Aside0.mk hlt; clear hb8 hrb hlt) | (go_at_call 15; refine (weak_may.calls k A0 c0 l0 2 0 _ (HC.out _ HB1.out) HL0.out HMAY.out).mono ?_; rintro e w1 ⟨rfl, hd1⟩; have HB1 := Aside0.mk (below_step HB1.out (Drawn0.below hd1)); have HRB := Aside0.mk (blk_below HRB.out (Drawn0.below hd1)); have HLT := Aside0.mk (Nat.lt_of_lt_of_le HLT.out (Drawn0.below hd1).size);  clear hd1) | ((with_reducible refine gate_dst (N := 34) rfl ?_); refine Kd.R_lit (Kd.int .i64) w.heap.size 3 ?hg (N := 34) ?hd (w0 := w) (xs := ([] : List Int)) (inner := []) (ok := fun _ => True) (okp := fun _ => True) ?hr ?hp (fun _ hk => hk) trivial HB1.out HB1.out.size (by simp) ?_; (case hd => rfl); (case hg => rfl); (case hr => first | (go_simp; done) | (go_simp; rfl)); (case hp => exact (Reps.none _ _)); intro v5 w5 ho5 hb5 hg_ hnew_; have HG5B := Aside0.mk (show ∀ k, v5.ownBlock = some k → w1.heap.size ≤ k from fun k hk => by obtain ⟨b, hb, hle⟩ := hnew_; rw [hb] at hk; injection hk with hk; omega); clear hnew_; have HO5 := Aside0.mk ho5; have HB5 := Aside0.mk hb5; have HG5 := Aside0.mk hg_; clear ho5 hb5 hg_) | ((with_reducible refine gate_builtin (b := .append) (xs := #[.tmp 34, .tmp 35]) rfl ?_); at_builtin; refine Kd.R_append_rows (Kd.int .i64) (w0 := w) w.heap.size rfl (.tmp 34) (.tmp 35) 22 3 (.int .i64 0) 8 rfl Try.underlying22 info3 rfl (by decide) (by omega) v5 [] l0 _ _ _ (fun _ => True) (fun _ => False) rfl rfl ?aO ?aR (fun _ _ h => h) (fun _ h => h.elim) ?aF ?aB ?aS ?aL ?_; (case aR => exact HC.out _ (HB5.out)); (case aB => exact HB5.out); (case aF => exact (fun _ _ => trivial)); (case aO => exact HO5.out); (case aS => exact HB5.out.size); (case aL => have := HM.out; simp; omega); intro v7 w7 ho7 hb7 hg7 hat7; rw [List.nil_append] at ho7; have HO7 := Aside0.mk ho7; have HB7 := Aside0.mk hb7; have HG7 := Aside0.mk hg7; clear ho7 hb7 hg7 hat7; have HRB := Aside0.mk (blk_grown (blk_grown HRB.out HG5.out (by simp)) HG7.out (fun e => Nat.lt_irrefl _ (Nat.lt_of_lt_of_le HLT.out (HG5B.out _ e.symm)))); have hcj := blk_cell HRB.out 3) | (go_at_call 23; refine (weak_rules.r3 k v7 _ _ _ w _ HB7.out HO7.out AH.out).mono ?_; clear HO7 HB7 AH; rintro e w7 ⟨rfl, ho7, hb7, hkp⟩; have HO7 := Aside0.mk ho7; have HB7 := Aside0.mk hb7; clear ho7 hb7 hkp))
  go_ret2
  exact ⟨_, rfl, HO7.out, HB7.out⟩
set_option maxHeartbeats 4000000 in
set_option maxRecDepth 100000 in
theorem weak_Step.good4_1 (k : Nat) (A0 : Option Addr) (c0 : Nat) (l0 : List Int) (w : World) (hr0 : Kd.C (Kd.int .i64) w A0 l0.length l0) (hc0 : l0.length ≤ c0) (l1 : List Int) (hm : l0.length < 17592186044416) (hmay : weak_may.f k l0 1 = some 0) (h : weak_signs.f l0 1 = some l1) :
    Calls Try.prog 13 #[.slice A0 l0.length c0, .int .i64 1, .int .i64 5] w fun e w' => ∃ v0_ : Value, e = .returned (.tuple #[v0_, .int .i64 0]) ∧ Kd.R (Kd.int .i64) 3 w' w.heap.size (fun _ => True) v0_ l1 ∧ Below w.heap.size w w' := by
  have HC := Aside0.mk (show ∀ w5, Below w.heap.size w w5 → Kd.C (Kd.int .i64) w5 A0 l0.length l0 from fun w5 h => Kd.C_below hr0 h)
  have HM := Aside0.mk hm
  have HL0 := Aside0.mk hc0
  have HMAY := Aside0.mk hmay
  have AH := Aside0.mk h
  clear hr0 hc0 hm hmay h
  go_enter Try.func13, Try.ntmps13
  go_wp2_with (first | (go_at_call 16; refine (weak_rules.calls _).mono ?_; rintro e w8 ⟨rfl, hb8, hrb, hlt⟩; have HB1 := Aside0.mk hb8; have HRB := Aside0.mk hrb; have HLT := Aside0.mk hlt; clear hb8 hrb hlt) | (go_at_call 15; refine (weak_may.calls k A0 c0 l0 1 0 _ (HC.out _ HB1.out) HL0.out HMAY.out).mono ?_; rintro e w1 ⟨rfl, hd1⟩; have HB1 := Aside0.mk (below_step HB1.out (Drawn0.below hd1)); have HRB := Aside0.mk (blk_below HRB.out (Drawn0.below hd1)); have HLT := Aside0.mk (Nat.lt_of_lt_of_le HLT.out (Drawn0.below hd1).size);  clear hd1) | ((with_reducible refine gate_dst (N := 34) rfl ?_); refine Kd.R_lit (Kd.int .i64) w.heap.size 3 ?hg (N := 34) ?hd (w0 := w) (xs := ([] : List Int)) (inner := []) (ok := fun _ => True) (okp := fun _ => True) ?hr ?hp (fun _ hk => hk) trivial HB1.out HB1.out.size (by simp) ?_; (case hd => rfl); (case hg => rfl); (case hr => first | (go_simp; done) | (go_simp; rfl)); (case hp => exact (Reps.none _ _)); intro v5 w5 ho5 hb5 hg_ hnew_; have HG5B := Aside0.mk (show ∀ k, v5.ownBlock = some k → w1.heap.size ≤ k from fun k hk => by obtain ⟨b, hb, hle⟩ := hnew_; rw [hb] at hk; injection hk with hk; omega); clear hnew_; have HO5 := Aside0.mk ho5; have HB5 := Aside0.mk hb5; have HG5 := Aside0.mk hg_; clear ho5 hb5 hg_) | ((with_reducible refine gate_builtin (b := .append) (xs := #[.tmp 34, .tmp 35]) rfl ?_); at_builtin; refine Kd.R_append_rows (Kd.int .i64) (w0 := w) w.heap.size rfl (.tmp 34) (.tmp 35) 22 3 (.int .i64 0) 8 rfl Try.underlying22 info3 rfl (by decide) (by omega) v5 [] l0 _ _ _ (fun _ => True) (fun _ => False) rfl rfl ?aO ?aR (fun _ _ h => h) (fun _ h => h.elim) ?aF ?aB ?aS ?aL ?_; (case aR => exact HC.out _ (HB5.out)); (case aB => exact HB5.out); (case aF => exact (fun _ _ => trivial)); (case aO => exact HO5.out); (case aS => exact HB5.out.size); (case aL => have := HM.out; simp; omega); intro v7 w7 ho7 hb7 hg7 hat7; rw [List.nil_append] at ho7; have HO7 := Aside0.mk ho7; have HB7 := Aside0.mk hb7; have HG7 := Aside0.mk hg7; clear ho7 hb7 hg7 hat7; have HRB := Aside0.mk (blk_grown (blk_grown HRB.out HG5.out (by simp)) HG7.out (fun e => Nat.lt_irrefl _ (Nat.lt_of_lt_of_le HLT.out (HG5B.out _ e.symm)))); have hcj := blk_cell HRB.out 4) | (go_at_call 24; refine (weak_rules.r4 k v7 _ _ _ w _ HB7.out HO7.out AH.out).mono ?_; clear HO7 HB7 AH; rintro e w7 ⟨rfl, ho7, hb7, hkp⟩; have HO7 := Aside0.mk ho7; have HB7 := Aside0.mk hb7; clear ho7 hb7 hkp))
  go_ret2
  exact ⟨_, rfl, HO7.out, HB7.out⟩
set_option maxHeartbeats 4000000 in
set_option maxRecDepth 100000 in
theorem weak_Step.good4_2 (k : Nat) (A0 : Option Addr) (c0 : Nat) (l0 : List Int) (w : World) (hr0 : Kd.C (Kd.int .i64) w A0 l0.length l0) (hc0 : l0.length ≤ c0) (l1 : List Int) (hm : l0.length < 17592186044416) (hmay : weak_may.f k l0 2 = some 0) (h : weak_signs.f l0 2 = some l1) :
    Calls Try.prog 13 #[.slice A0 l0.length c0, .int .i64 2, .int .i64 5] w fun e w' => ∃ v0_ : Value, e = .returned (.tuple #[v0_, .int .i64 0]) ∧ Kd.R (Kd.int .i64) 3 w' w.heap.size (fun _ => True) v0_ l1 ∧ Below w.heap.size w w' := by
  have HC := Aside0.mk (show ∀ w5, Below w.heap.size w w5 → Kd.C (Kd.int .i64) w5 A0 l0.length l0 from fun w5 h => Kd.C_below hr0 h)
  have HM := Aside0.mk hm
  have HL0 := Aside0.mk hc0
  have HMAY := Aside0.mk hmay
  have AH := Aside0.mk h
  clear hr0 hc0 hm hmay h
  go_enter Try.func13, Try.ntmps13
  go_wp2_with (first | (go_at_call 16; refine (weak_rules.calls _).mono ?_; rintro e w8 ⟨rfl, hb8, hrb, hlt⟩; have HB1 := Aside0.mk hb8; have HRB := Aside0.mk hrb; have HLT := Aside0.mk hlt; clear hb8 hrb hlt) | (go_at_call 15; refine (weak_may.calls k A0 c0 l0 2 0 _ (HC.out _ HB1.out) HL0.out HMAY.out).mono ?_; rintro e w1 ⟨rfl, hd1⟩; have HB1 := Aside0.mk (below_step HB1.out (Drawn0.below hd1)); have HRB := Aside0.mk (blk_below HRB.out (Drawn0.below hd1)); have HLT := Aside0.mk (Nat.lt_of_lt_of_le HLT.out (Drawn0.below hd1).size);  clear hd1) | ((with_reducible refine gate_dst (N := 34) rfl ?_); refine Kd.R_lit (Kd.int .i64) w.heap.size 3 ?hg (N := 34) ?hd (w0 := w) (xs := ([] : List Int)) (inner := []) (ok := fun _ => True) (okp := fun _ => True) ?hr ?hp (fun _ hk => hk) trivial HB1.out HB1.out.size (by simp) ?_; (case hd => rfl); (case hg => rfl); (case hr => first | (go_simp; done) | (go_simp; rfl)); (case hp => exact (Reps.none _ _)); intro v5 w5 ho5 hb5 hg_ hnew_; have HG5B := Aside0.mk (show ∀ k, v5.ownBlock = some k → w1.heap.size ≤ k from fun k hk => by obtain ⟨b, hb, hle⟩ := hnew_; rw [hb] at hk; injection hk with hk; omega); clear hnew_; have HO5 := Aside0.mk ho5; have HB5 := Aside0.mk hb5; have HG5 := Aside0.mk hg_; clear ho5 hb5 hg_) | ((with_reducible refine gate_builtin (b := .append) (xs := #[.tmp 34, .tmp 35]) rfl ?_); at_builtin; refine Kd.R_append_rows (Kd.int .i64) (w0 := w) w.heap.size rfl (.tmp 34) (.tmp 35) 22 3 (.int .i64 0) 8 rfl Try.underlying22 info3 rfl (by decide) (by omega) v5 [] l0 _ _ _ (fun _ => True) (fun _ => False) rfl rfl ?aO ?aR (fun _ _ h => h) (fun _ h => h.elim) ?aF ?aB ?aS ?aL ?_; (case aR => exact HC.out _ (HB5.out)); (case aB => exact HB5.out); (case aF => exact (fun _ _ => trivial)); (case aO => exact HO5.out); (case aS => exact HB5.out.size); (case aL => have := HM.out; simp; omega); intro v7 w7 ho7 hb7 hg7 hat7; rw [List.nil_append] at ho7; have HO7 := Aside0.mk ho7; have HB7 := Aside0.mk hb7; have HG7 := Aside0.mk hg7; clear ho7 hb7 hg7 hat7; have HRB := Aside0.mk (blk_grown (blk_grown HRB.out HG5.out (by simp)) HG7.out (fun e => Nat.lt_irrefl _ (Nat.lt_of_lt_of_le HLT.out (HG5B.out _ e.symm)))); have hcj := blk_cell HRB.out 4) | (go_at_call 24; refine (weak_rules.r4 k v7 _ _ _ w _ HB7.out HO7.out AH.out).mono ?_; clear HO7 HB7 AH; rintro e w7 ⟨rfl, ho7, hb7, hkp⟩; have HO7 := Aside0.mk ho7; have HB7 := Aside0.mk hb7; clear ho7 hb7 hkp))
  go_ret2
  exact ⟨_, rfl, HO7.out, HB7.out⟩
set_option maxHeartbeats 4000000 in
set_option maxRecDepth 100000 in
theorem weak_Step.good5_1 (k : Nat) (A0 : Option Addr) (c0 : Nat) (l0 : List Int) (w : World) (hr0 : Kd.C (Kd.int .i64) w A0 l0.length l0) (hc0 : l0.length ≤ c0) (l1 : List Int) (hm : l0.length < 17592186044416) (hmay : weak_may.f k l0 1 = some 0) (h : weak_rest.f k l0 1 = some l1) :
    Calls Try.prog 13 #[.slice A0 l0.length c0, .int .i64 1, .int .i64 6] w fun e w' => ∃ v0_ : Value, e = .returned (.tuple #[v0_, .int .i64 0]) ∧ Kd.R (Kd.int .i64) 3 w' w.heap.size (fun _ => True) v0_ l1 ∧ Below w.heap.size w w' := by
  have HC := Aside0.mk (show ∀ w5, Below w.heap.size w w5 → Kd.C (Kd.int .i64) w5 A0 l0.length l0 from fun w5 h => Kd.C_below hr0 h)
  have HM := Aside0.mk hm
  have HL0 := Aside0.mk hc0
  have HMAY := Aside0.mk hmay
  have AH := Aside0.mk h
  clear hr0 hc0 hm hmay h
  go_enter Try.func13, Try.ntmps13
  go_wp2_with (first | (go_at_call 16; refine (weak_rules.calls _).mono ?_; rintro e w8 ⟨rfl, hb8, hrb, hlt⟩; have HB1 := Aside0.mk hb8; have HRB := Aside0.mk hrb; have HLT := Aside0.mk hlt; clear hb8 hrb hlt) | (go_at_call 15; refine (weak_may.calls k A0 c0 l0 1 0 _ (HC.out _ HB1.out) HL0.out HMAY.out).mono ?_; rintro e w1 ⟨rfl, hd1⟩; have HB1 := Aside0.mk (below_step HB1.out (Drawn0.below hd1)); have HRB := Aside0.mk (blk_below HRB.out (Drawn0.below hd1)); have HLT := Aside0.mk (Nat.lt_of_lt_of_le HLT.out (Drawn0.below hd1).size);  clear hd1) | ((with_reducible refine gate_dst (N := 34) rfl ?_); refine Kd.R_lit (Kd.int .i64) w.heap.size 3 ?hg (N := 34) ?hd (w0 := w) (xs := ([] : List Int)) (inner := []) (ok := fun _ => True) (okp := fun _ => True) ?hr ?hp (fun _ hk => hk) trivial HB1.out HB1.out.size (by simp) ?_; (case hd => rfl); (case hg => rfl); (case hr => first | (go_simp; done) | (go_simp; rfl)); (case hp => exact (Reps.none _ _)); intro v5 w5 ho5 hb5 hg_ hnew_; have HG5B := Aside0.mk (show ∀ k, v5.ownBlock = some k → w1.heap.size ≤ k from fun k hk => by obtain ⟨b, hb, hle⟩ := hnew_; rw [hb] at hk; injection hk with hk; omega); clear hnew_; have HO5 := Aside0.mk ho5; have HB5 := Aside0.mk hb5; have HG5 := Aside0.mk hg_; clear ho5 hb5 hg_) | ((with_reducible refine gate_builtin (b := .append) (xs := #[.tmp 34, .tmp 35]) rfl ?_); at_builtin; refine Kd.R_append_rows (Kd.int .i64) (w0 := w) w.heap.size rfl (.tmp 34) (.tmp 35) 22 3 (.int .i64 0) 8 rfl Try.underlying22 info3 rfl (by decide) (by omega) v5 [] l0 _ _ _ (fun _ => True) (fun _ => False) rfl rfl ?aO ?aR (fun _ _ h => h) (fun _ h => h.elim) ?aF ?aB ?aS ?aL ?_; (case aR => exact HC.out _ (HB5.out)); (case aB => exact HB5.out); (case aF => exact (fun _ _ => trivial)); (case aO => exact HO5.out); (case aS => exact HB5.out.size); (case aL => have := HM.out; simp; omega); intro v7 w7 ho7 hb7 hg7 hat7; rw [List.nil_append] at ho7; have HO7 := Aside0.mk ho7; have HB7 := Aside0.mk hb7; have HG7 := Aside0.mk hg7; clear ho7 hb7 hg7 hat7; have HRB := Aside0.mk (blk_grown (blk_grown HRB.out HG5.out (by simp)) HG7.out (fun e => Nat.lt_irrefl _ (Nat.lt_of_lt_of_le HLT.out (HG5B.out _ e.symm)))); have hcj := blk_cell HRB.out 5) | (go_at_call 25; refine (weak_rules.r5 k v7 _ _ _ w _ HB7.out HO7.out AH.out).mono ?_; clear HO7 HB7 AH; rintro e w7 ⟨rfl, ho7, hb7, hkp⟩; have HO7 := Aside0.mk ho7; have HB7 := Aside0.mk hb7; clear ho7 hb7 hkp))
  go_ret2
  exact ⟨_, rfl, HO7.out, HB7.out⟩
set_option maxHeartbeats 4000000 in
set_option maxRecDepth 100000 in
theorem weak_Step.good5_2 (k : Nat) (A0 : Option Addr) (c0 : Nat) (l0 : List Int) (w : World) (hr0 : Kd.C (Kd.int .i64) w A0 l0.length l0) (hc0 : l0.length ≤ c0) (l1 : List Int) (hm : l0.length < 17592186044416) (hmay : weak_may.f k l0 2 = some 0) (h : weak_rest.f k l0 2 = some l1) :
    Calls Try.prog 13 #[.slice A0 l0.length c0, .int .i64 2, .int .i64 6] w fun e w' => ∃ v0_ : Value, e = .returned (.tuple #[v0_, .int .i64 0]) ∧ Kd.R (Kd.int .i64) 3 w' w.heap.size (fun _ => True) v0_ l1 ∧ Below w.heap.size w w' := by
  have HC := Aside0.mk (show ∀ w5, Below w.heap.size w w5 → Kd.C (Kd.int .i64) w5 A0 l0.length l0 from fun w5 h => Kd.C_below hr0 h)
  have HM := Aside0.mk hm
  have HL0 := Aside0.mk hc0
  have HMAY := Aside0.mk hmay
  have AH := Aside0.mk h
  clear hr0 hc0 hm hmay h
  go_enter Try.func13, Try.ntmps13
  go_wp2_with (first | (go_at_call 16; refine (weak_rules.calls _).mono ?_; rintro e w8 ⟨rfl, hb8, hrb, hlt⟩; have HB1 := Aside0.mk hb8; have HRB := Aside0.mk hrb; have HLT := Aside0.mk hlt; clear hb8 hrb hlt) | (go_at_call 15; refine (weak_may.calls k A0 c0 l0 2 0 _ (HC.out _ HB1.out) HL0.out HMAY.out).mono ?_; rintro e w1 ⟨rfl, hd1⟩; have HB1 := Aside0.mk (below_step HB1.out (Drawn0.below hd1)); have HRB := Aside0.mk (blk_below HRB.out (Drawn0.below hd1)); have HLT := Aside0.mk (Nat.lt_of_lt_of_le HLT.out (Drawn0.below hd1).size);  clear hd1) | ((with_reducible refine gate_dst (N := 34) rfl ?_); refine Kd.R_lit (Kd.int .i64) w.heap.size 3 ?hg (N := 34) ?hd (w0 := w) (xs := ([] : List Int)) (inner := []) (ok := fun _ => True) (okp := fun _ => True) ?hr ?hp (fun _ hk => hk) trivial HB1.out HB1.out.size (by simp) ?_; (case hd => rfl); (case hg => rfl); (case hr => first | (go_simp; done) | (go_simp; rfl)); (case hp => exact (Reps.none _ _)); intro v5 w5 ho5 hb5 hg_ hnew_; have HG5B := Aside0.mk (show ∀ k, v5.ownBlock = some k → w1.heap.size ≤ k from fun k hk => by obtain ⟨b, hb, hle⟩ := hnew_; rw [hb] at hk; injection hk with hk; omega); clear hnew_; have HO5 := Aside0.mk ho5; have HB5 := Aside0.mk hb5; have HG5 := Aside0.mk hg_; clear ho5 hb5 hg_) | ((with_reducible refine gate_builtin (b := .append) (xs := #[.tmp 34, .tmp 35]) rfl ?_); at_builtin; refine Kd.R_append_rows (Kd.int .i64) (w0 := w) w.heap.size rfl (.tmp 34) (.tmp 35) 22 3 (.int .i64 0) 8 rfl Try.underlying22 info3 rfl (by decide) (by omega) v5 [] l0 _ _ _ (fun _ => True) (fun _ => False) rfl rfl ?aO ?aR (fun _ _ h => h) (fun _ h => h.elim) ?aF ?aB ?aS ?aL ?_; (case aR => exact HC.out _ (HB5.out)); (case aB => exact HB5.out); (case aF => exact (fun _ _ => trivial)); (case aO => exact HO5.out); (case aS => exact HB5.out.size); (case aL => have := HM.out; simp; omega); intro v7 w7 ho7 hb7 hg7 hat7; rw [List.nil_append] at ho7; have HO7 := Aside0.mk ho7; have HB7 := Aside0.mk hb7; have HG7 := Aside0.mk hg7; clear ho7 hb7 hg7 hat7; have HRB := Aside0.mk (blk_grown (blk_grown HRB.out HG5.out (by simp)) HG7.out (fun e => Nat.lt_irrefl _ (Nat.lt_of_lt_of_le HLT.out (HG5B.out _ e.symm)))); have hcj := blk_cell HRB.out 5) | (go_at_call 25; refine (weak_rules.r5 k v7 _ _ _ w _ HB7.out HO7.out AH.out).mono ?_; clear HO7 HB7 AH; rintro e w7 ⟨rfl, ho7, hb7, hkp⟩; have HO7 := Aside0.mk ho7; have HB7 := Aside0.mk hb7; clear ho7 hb7 hkp))
  go_ret2
  exact ⟨_, rfl, HO7.out, HB7.out⟩
set_option maxHeartbeats 4000000 in
set_option maxRecDepth 100000 in
theorem weak_Step.good6_1 (k : Nat) (A0 : Option Addr) (c0 : Nat) (l0 : List Int) (w : World) (hr0 : Kd.C (Kd.int .i64) w A0 l0.length l0) (hc0 : l0.length ≤ c0) (l1 : List Int) (hm : l0.length < 17592186044416) (hmay : weak_may.f k l0 1 = some 0) (h : weak_latin.f l0 1 = some l1) :
    Calls Try.prog 13 #[.slice A0 l0.length c0, .int .i64 1, .int .i64 7] w fun e w' => ∃ v0_ : Value, e = .returned (.tuple #[v0_, .int .i64 0]) ∧ Kd.R (Kd.int .i64) 3 w' w.heap.size (fun _ => True) v0_ l1 ∧ Below w.heap.size w w' := by
  have HC := Aside0.mk (show ∀ w5, Below w.heap.size w w5 → Kd.C (Kd.int .i64) w5 A0 l0.length l0 from fun w5 h => Kd.C_below hr0 h)
  have HM := Aside0.mk hm
  have HL0 := Aside0.mk hc0
  have HMAY := Aside0.mk hmay
  have AH := Aside0.mk h
  clear hr0 hc0 hm hmay h
  go_enter Try.func13, Try.ntmps13
  go_wp2_with (first | (go_at_call 16; refine (weak_rules.calls _).mono ?_; rintro e w8 ⟨rfl, hb8, hrb, hlt⟩; have HB1 := Aside0.mk hb8; have HRB := Aside0.mk hrb; have HLT := Aside0.mk hlt; clear hb8 hrb hlt) | (go_at_call 15; refine (weak_may.calls k A0 c0 l0 1 0 _ (HC.out _ HB1.out) HL0.out HMAY.out).mono ?_; rintro e w1 ⟨rfl, hd1⟩; have HB1 := Aside0.mk (below_step HB1.out (Drawn0.below hd1)); have HRB := Aside0.mk (blk_below HRB.out (Drawn0.below hd1)); have HLT := Aside0.mk (Nat.lt_of_lt_of_le HLT.out (Drawn0.below hd1).size);  clear hd1) | ((with_reducible refine gate_dst (N := 34) rfl ?_); refine Kd.R_lit (Kd.int .i64) w.heap.size 3 ?hg (N := 34) ?hd (w0 := w) (xs := ([] : List Int)) (inner := []) (ok := fun _ => True) (okp := fun _ => True) ?hr ?hp (fun _ hk => hk) trivial HB1.out HB1.out.size (by simp) ?_; (case hd => rfl); (case hg => rfl); (case hr => first | (go_simp; done) | (go_simp; rfl)); (case hp => exact (Reps.none _ _)); intro v5 w5 ho5 hb5 hg_ hnew_; have HG5B := Aside0.mk (show ∀ k, v5.ownBlock = some k → w1.heap.size ≤ k from fun k hk => by obtain ⟨b, hb, hle⟩ := hnew_; rw [hb] at hk; injection hk with hk; omega); clear hnew_; have HO5 := Aside0.mk ho5; have HB5 := Aside0.mk hb5; have HG5 := Aside0.mk hg_; clear ho5 hb5 hg_) | ((with_reducible refine gate_builtin (b := .append) (xs := #[.tmp 34, .tmp 35]) rfl ?_); at_builtin; refine Kd.R_append_rows (Kd.int .i64) (w0 := w) w.heap.size rfl (.tmp 34) (.tmp 35) 22 3 (.int .i64 0) 8 rfl Try.underlying22 info3 rfl (by decide) (by omega) v5 [] l0 _ _ _ (fun _ => True) (fun _ => False) rfl rfl ?aO ?aR (fun _ _ h => h) (fun _ h => h.elim) ?aF ?aB ?aS ?aL ?_; (case aR => exact HC.out _ (HB5.out)); (case aB => exact HB5.out); (case aF => exact (fun _ _ => trivial)); (case aO => exact HO5.out); (case aS => exact HB5.out.size); (case aL => have := HM.out; simp; omega); intro v7 w7 ho7 hb7 hg7 hat7; rw [List.nil_append] at ho7; have HO7 := Aside0.mk ho7; have HB7 := Aside0.mk hb7; have HG7 := Aside0.mk hg7; clear ho7 hb7 hg7 hat7; have HRB := Aside0.mk (blk_grown (blk_grown HRB.out HG5.out (by simp)) HG7.out (fun e => Nat.lt_irrefl _ (Nat.lt_of_lt_of_le HLT.out (HG5B.out _ e.symm)))); have hcj := blk_cell HRB.out 6) | (go_at_call 26; refine (weak_rules.r6 k v7 _ _ _ w _ HB7.out HO7.out AH.out).mono ?_; clear HO7 HB7 AH; rintro e w7 ⟨rfl, ho7, hb7, hkp⟩; have HO7 := Aside0.mk ho7; have HB7 := Aside0.mk hb7; clear ho7 hb7 hkp))
  go_ret2
  exact ⟨_, rfl, HO7.out, HB7.out⟩
set_option maxHeartbeats 4000000 in
set_option maxRecDepth 100000 in
theorem weak_Step.good6_2 (k : Nat) (A0 : Option Addr) (c0 : Nat) (l0 : List Int) (w : World) (hr0 : Kd.C (Kd.int .i64) w A0 l0.length l0) (hc0 : l0.length ≤ c0) (l1 : List Int) (hm : l0.length < 17592186044416) (hmay : weak_may.f k l0 2 = some 0) (h : weak_latin.f l0 2 = some l1) :
    Calls Try.prog 13 #[.slice A0 l0.length c0, .int .i64 2, .int .i64 7] w fun e w' => ∃ v0_ : Value, e = .returned (.tuple #[v0_, .int .i64 0]) ∧ Kd.R (Kd.int .i64) 3 w' w.heap.size (fun _ => True) v0_ l1 ∧ Below w.heap.size w w' := by
  have HC := Aside0.mk (show ∀ w5, Below w.heap.size w w5 → Kd.C (Kd.int .i64) w5 A0 l0.length l0 from fun w5 h => Kd.C_below hr0 h)
  have HM := Aside0.mk hm
  have HL0 := Aside0.mk hc0
  have HMAY := Aside0.mk hmay
  have AH := Aside0.mk h
  clear hr0 hc0 hm hmay h
  go_enter Try.func13, Try.ntmps13
  go_wp2_with (first | (go_at_call 16; refine (weak_rules.calls _).mono ?_; rintro e w8 ⟨rfl, hb8, hrb, hlt⟩; have HB1 := Aside0.mk hb8; have HRB := Aside0.mk hrb; have HLT := Aside0.mk hlt; clear hb8 hrb hlt) | (go_at_call 15; refine (weak_may.calls k A0 c0 l0 2 0 _ (HC.out _ HB1.out) HL0.out HMAY.out).mono ?_; rintro e w1 ⟨rfl, hd1⟩; have HB1 := Aside0.mk (below_step HB1.out (Drawn0.below hd1)); have HRB := Aside0.mk (blk_below HRB.out (Drawn0.below hd1)); have HLT := Aside0.mk (Nat.lt_of_lt_of_le HLT.out (Drawn0.below hd1).size);  clear hd1) | ((with_reducible refine gate_dst (N := 34) rfl ?_); refine Kd.R_lit (Kd.int .i64) w.heap.size 3 ?hg (N := 34) ?hd (w0 := w) (xs := ([] : List Int)) (inner := []) (ok := fun _ => True) (okp := fun _ => True) ?hr ?hp (fun _ hk => hk) trivial HB1.out HB1.out.size (by simp) ?_; (case hd => rfl); (case hg => rfl); (case hr => first | (go_simp; done) | (go_simp; rfl)); (case hp => exact (Reps.none _ _)); intro v5 w5 ho5 hb5 hg_ hnew_; have HG5B := Aside0.mk (show ∀ k, v5.ownBlock = some k → w1.heap.size ≤ k from fun k hk => by obtain ⟨b, hb, hle⟩ := hnew_; rw [hb] at hk; injection hk with hk; omega); clear hnew_; have HO5 := Aside0.mk ho5; have HB5 := Aside0.mk hb5; have HG5 := Aside0.mk hg_; clear ho5 hb5 hg_) | ((with_reducible refine gate_builtin (b := .append) (xs := #[.tmp 34, .tmp 35]) rfl ?_); at_builtin; refine Kd.R_append_rows (Kd.int .i64) (w0 := w) w.heap.size rfl (.tmp 34) (.tmp 35) 22 3 (.int .i64 0) 8 rfl Try.underlying22 info3 rfl (by decide) (by omega) v5 [] l0 _ _ _ (fun _ => True) (fun _ => False) rfl rfl ?aO ?aR (fun _ _ h => h) (fun _ h => h.elim) ?aF ?aB ?aS ?aL ?_; (case aR => exact HC.out _ (HB5.out)); (case aB => exact HB5.out); (case aF => exact (fun _ _ => trivial)); (case aO => exact HO5.out); (case aS => exact HB5.out.size); (case aL => have := HM.out; simp; omega); intro v7 w7 ho7 hb7 hg7 hat7; rw [List.nil_append] at ho7; have HO7 := Aside0.mk ho7; have HB7 := Aside0.mk hb7; have HG7 := Aside0.mk hg7; clear ho7 hb7 hg7 hat7; have HRB := Aside0.mk (blk_grown (blk_grown HRB.out HG5.out (by simp)) HG7.out (fun e => Nat.lt_irrefl _ (Nat.lt_of_lt_of_le HLT.out (HG5B.out _ e.symm)))); have hcj := blk_cell HRB.out 6) | (go_at_call 26; refine (weak_rules.r6 k v7 _ _ _ w _ HB7.out HO7.out AH.out).mono ?_; clear HO7 HB7 AH; rintro e w7 ⟨rfl, ho7, hb7, hkp⟩; have HO7 := Aside0.mk ho7; have HB7 := Aside0.mk hb7; clear ho7 hb7 hkp))
  go_ret2
  exact ⟨_, rfl, HO7.out, HB7.out⟩
def weak_Step.f (k : Nat) (l0 : List Int) (a1 a2 : Int) : Option (List Int × Int) := if (a1 = 1 ∨ a1 = 2) ∧ (a2 < 1 ∨ 7 < a2) then some ([], 2) else (weak_may.f k l0 a1).bind fun e => if e = 0 then (if l0.length < 17592186044416 ∧ (a1 = 1 ∨ a1 = 2) then (weak_rules.app k (a2 - 1).toNat l0 a1).bind fun l => some (l, 0) else none) else some ([], e)
theorem weak_Step.calls (k : Nat) (A0 : Option Addr) (c0 : Nat) (l0 : List Int) (a1 : Int) (a2 : Int) (r1 : List Int) (r2 : Int) (w : World) (hr0 : Kd.C (Kd.int .i64) w A0 l0.length l0) (hc0 : l0.length ≤ c0) (h : weak_Step.f k l0 a1 a2 = some (r1, r2)) :
    Calls Try.prog 13 #[.slice A0 l0.length c0, .int .i64 a1, .int .i64 a2] w fun e w' => ∃ v0_ : Value, e = .returned (.tuple #[v0_, .int .i64 r2]) ∧ Kd.R (Kd.int .i64) 3 w' w.heap.size (fun _ => True) v0_ r1 ∧ Below w.heap.size w w' := by
  have bad : ∀ x : Int, (Calls Try.prog 13 #[.slice A0 l0.length c0, .int .i64 a1, .int .i64 a2] w fun e w' => e = .returned (.tuple #[.slice none 0 0, .int .i64 x]) ∧ Below w.heap.size w w') → some (([] : List Int), x) = some (r1, r2) → Calls Try.prog 13 #[.slice A0 l0.length c0, .int .i64 a1, .int .i64 a2] w fun e w' => ∃ v0_ : Value, e = .returned (.tuple #[v0_, .int .i64 r2]) ∧ Kd.R (Kd.int .i64) 3 w' w.heap.size (fun _ => True) v0_ r1 ∧ Below w.heap.size w w' := by
    intro x hx he
    simp only [Option.some.injEq, Prod.mk.injEq] at he
    obtain ⟨rfl, rfl⟩ := he
    refine hx.mono ?_
    rintro e' w' ⟨rfl, hb⟩
    exact ⟨_, rfl, Kd.R_nil _ _ _ _ _, hb⟩
  unfold weak_Step.f at h
  by_cases hc : (a1 = 1 ∨ a1 = 2) ∧ (a2 < 1 ∨ 7 < a2)
  · rw [if_pos hc] at h
    refine bad 2 ?_ h
    rcases hc.1 with h1 | h1 <;> rcases hc.2 with h2 | h2
    · exact weak_Step.arg1l k A0 c0 l0 a1 a2 w hr0 hc0 h1 h2
    · exact weak_Step.arg1g k A0 c0 l0 a1 a2 w hr0 hc0 h1 h2
    · exact weak_Step.arg2l k A0 c0 l0 a1 a2 w hr0 hc0 h1 h2
    · exact weak_Step.arg2g k A0 c0 l0 a1 a2 w hr0 hc0 h1 h2
  · rw [if_neg hc] at h
    obtain ⟨e, he, h⟩ := Option.bind_eq_some_iff.mp h
    by_cases hz : e = 0
    · subst hz
      rw [if_pos rfl] at h
      split at h
      · rename_i hm
        obtain ⟨hm, ha⟩ := hm
        have h7 : a2 = 1 ∨ a2 = 2 ∨ a2 = 3 ∨ a2 = 4 ∨ a2 = 5 ∨ a2 = 6 ∨ a2 = 7 := by omega
        clear hc bad
        rcases h7 with rfl | rfl | rfl | rfl | rfl | rfl | rfl
        · replace h : (weak_marks.f k l0 a1).bind (fun l => some (l, 0)) = some (r1, r2) := h
          obtain ⟨l, hl, h⟩ := Option.bind_eq_some_iff.mp h
          simp only [Option.some.injEq, Prod.mk.injEq] at h
          obtain ⟨rfl, rfl⟩ := h
          rcases ha with rfl | rfl
          · exact weak_Step.good0_1 k A0 c0 l0 w hr0 hc0 _ hm he hl
          · exact weak_Step.good0_2 k A0 c0 l0 w hr0 hc0 _ hm he hl
        · replace h : (weak_arabic.f l0 a1).bind (fun l => some (l, 0)) = some (r1, r2) := h
          obtain ⟨l, hl, h⟩ := Option.bind_eq_some_iff.mp h
          simp only [Option.some.injEq, Prod.mk.injEq] at h
          obtain ⟨rfl, rfl⟩ := h
          rcases ha with rfl | rfl
          · exact weak_Step.good1_1 k A0 c0 l0 w hr0 hc0 _ hm he hl
          · exact weak_Step.good1_2 k A0 c0 l0 w hr0 hc0 _ hm he hl
        · replace h : (weak_letters.f k l0 a1).bind (fun l => some (l, 0)) = some (r1, r2) := h
          obtain ⟨l, hl, h⟩ := Option.bind_eq_some_iff.mp h
          simp only [Option.some.injEq, Prod.mk.injEq] at h
          obtain ⟨rfl, rfl⟩ := h
          rcases ha with rfl | rfl
          · exact weak_Step.good2_1 k A0 c0 l0 w hr0 hc0 _ hm he hl
          · exact weak_Step.good2_2 k A0 c0 l0 w hr0 hc0 _ hm he hl
        · replace h : (weak_single.f k l0 a1).bind (fun l => some (l, 0)) = some (r1, r2) := h
          obtain ⟨l, hl, h⟩ := Option.bind_eq_some_iff.mp h
          simp only [Option.some.injEq, Prod.mk.injEq] at h
          obtain ⟨rfl, rfl⟩ := h
          rcases ha with rfl | rfl
          · exact weak_Step.good3_1 k A0 c0 l0 w hr0 hc0 _ hm he hl
          · exact weak_Step.good3_2 k A0 c0 l0 w hr0 hc0 _ hm he hl
        · replace h : (weak_signs.f l0 a1).bind (fun l => some (l, 0)) = some (r1, r2) := h
          obtain ⟨l, hl, h⟩ := Option.bind_eq_some_iff.mp h
          simp only [Option.some.injEq, Prod.mk.injEq] at h
          obtain ⟨rfl, rfl⟩ := h
          rcases ha with rfl | rfl
          · exact weak_Step.good4_1 k A0 c0 l0 w hr0 hc0 _ hm he hl
          · exact weak_Step.good4_2 k A0 c0 l0 w hr0 hc0 _ hm he hl
        · replace h : (weak_rest.f k l0 a1).bind (fun l => some (l, 0)) = some (r1, r2) := h
          obtain ⟨l, hl, h⟩ := Option.bind_eq_some_iff.mp h
          simp only [Option.some.injEq, Prod.mk.injEq] at h
          obtain ⟨rfl, rfl⟩ := h
          rcases ha with rfl | rfl
          · exact weak_Step.good5_1 k A0 c0 l0 w hr0 hc0 _ hm he hl
          · exact weak_Step.good5_2 k A0 c0 l0 w hr0 hc0 _ hm he hl
        · replace h : (weak_latin.f l0 a1).bind (fun l => some (l, 0)) = some (r1, r2) := h
          obtain ⟨l, hl, h⟩ := Option.bind_eq_some_iff.mp h
          simp only [Option.some.injEq, Prod.mk.injEq] at h
          obtain ⟨rfl, rfl⟩ := h
          rcases ha with rfl | rfl
          · exact weak_Step.good6_1 k A0 c0 l0 w hr0 hc0 _ hm he hl
          · exact weak_Step.good6_2 k A0 c0 l0 w hr0 hc0 _ hm he hl
      · cases h
    · rw [if_neg hz] at h
      refine bad e ?_ h
      by_cases h1 : a1 = 1
      · exact weak_Step.form1n k A0 c0 l0 a1 a2 w hr0 hc0 h1 (by omega) e he hz
      · by_cases h2 : a1 = 2
        · exact weak_Step.form2n k A0 c0 l0 a1 a2 w hr0 hc0 h2 (by omega) e he hz
        · exact weak_Step.form0 k A0 c0 l0 a1 a2 w hr0 hc0 ⟨h1, h2⟩ e he hz
theorem weak_Step.mono : ∀ a0 a1 a2 k, LeO (weak_Step.f k a0 a1 a2) (weak_Step.f (k + 1) a0 a1 a2) := by
  intro a0 a1 a2 k
  unfold weak_Step.f weak_rules.app
  repeat' first
      | (with_reducible exact weak_may.mono _ _ _)
      | (with_reducible exact weak_marks.mono _ _ _)
      | (with_reducible exact weak_letters.mono _ _ _)
      | (with_reducible exact weak_single.mono _ _ _)
      | (with_reducible exact weak_rest.mono _ _ _)
      | (with_reducible exact LeO.refl _)
      | (with_reducible exact LeO.none _)
      | (with_reducible refine LeO.ite ?_ ?_)
      | (with_reducible refine LeO.bind ?_ (fun _ => ?_))

end Go.Proofs.Ytckajjoliiefdaa.PW
