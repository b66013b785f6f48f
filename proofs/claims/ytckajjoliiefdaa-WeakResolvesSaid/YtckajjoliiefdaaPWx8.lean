-- written by xp.py (a program of this session's own) over the kit's printer; not trusted: Lean checks it
import Derived.Test.YtckajjoliiefdaaPWx0
import Derived.Test.YtckajjoliiefdaaPWx1
import Derived.Test.YtckajjoliiefdaaPWx2
import Derived.Test.YtckajjoliiefdaaPWx3
import Derived.Test.YtckajjoliiefdaaPWx4
import Derived.Test.YtckajjoliiefdaaPWx6
import Derived.Test.YtckajjoliiefdaaPWx7
namespace Go.Proofs.Ytckajjoliiefdaa.PW
open Go.RowKit Go.Proofs.YtckajjoliiefdaaW.PrintWords Go.Proofs.YtckajjoliiefdaaW.PrintLast Go.Proofs.YtckajjoliiefdaaW.PrintMore
attribute [local go_sem] max2_int min2_int max_two min_two max_three min_three max_four min_four   -- for this text's walks alone
set_option linter.unusedVariables false
set_option linter.unusedSimpArgs false

/-! ### weak_Resolve: function 10 -/
set_option maxRecDepth 100000 in
theorem weak_rules.calls (w : World) : Calls Try.prog 16 #[] w fun e w' => e = .returned (.slice (some ⟨w.heap.size, 0, none⟩) 7 7) ∧ Below w.heap.size w w' ∧ w'.heap[w.heap.size]? = some (.cells #[.func (Fn.func 20) #[] #[], .func (Fn.func 21) #[] #[], .func (Fn.func 22) #[] #[], .func (Fn.func 23) #[] #[], .func (Fn.func 24) #[] #[], .func (Fn.func 25) #[] #[], .func (Fn.func 26) #[] #[]] 37 (0, 0)) ∧ w.heap.size < w'.heap.size := by
  go_enter Try.func16, Try.ntmps16
  go_wp2
  go_ret
  exact ⟨rfl, below_alloc (Below.refl _ _) _, blk_new w _, blk_lt (blk_new w _)⟩
theorem weak_rules.r0 (k : Nat) (v : Value) (l : List Int) (a1 : Int) (r : List Int) (w0 w : World) (hB : Below w0.heap.size w0 w) (ho : Kd.R (Kd.int .i64) 3 w w0.heap.size (fun _ => True) v l) (h : weak_marks.f k l a1 = some r) :
    Calls Try.prog 20 #[v, .int .i64 a1] w fun e w' => e = .returned (.tuple #[]) ∧ Kd.R (Kd.int .i64) 3 w' w0.heap.size (fun _ => True) v r ∧ Below w0.heap.size w0 w' ∧ ∀ (rb : Nat) (o : Obj), some rb ≠ v.ownBlock → w.heap[rb]? = some o → w'.heap[rb]? = some o := by
  refine (weak_marks.calls k (fun k => some k = v.ownBlock) v l a1 r w0 w hB (Kd.R_tight rfl ho) h).mono ?_
  rintro e w' ⟨rfl, hr, hb, hk⟩
  exact ⟨rfl, Kd.R_mono hr (fun _ _ => trivial), hb, fun rb o h1 h2 => (hk.2 rb (blk_lt h2) h1).trans h2⟩
theorem weak_rules.r1 (k : Nat) (v : Value) (l : List Int) (a1 : Int) (r : List Int) (w0 w : World) (hB : Below w0.heap.size w0 w) (ho : Kd.R (Kd.int .i64) 3 w w0.heap.size (fun _ => True) v l) (h : weak_arabic.f l a1 = some r) :
    Calls Try.prog 21 #[v, .int .i64 a1] w fun e w' => e = .returned (.tuple #[]) ∧ Kd.R (Kd.int .i64) 3 w' w0.heap.size (fun _ => True) v r ∧ Below w0.heap.size w0 w' ∧ ∀ (rb : Nat) (o : Obj), some rb ≠ v.ownBlock → w.heap[rb]? = some o → w'.heap[rb]? = some o := by
  refine (weak_arabic.calls (fun k => some k = v.ownBlock) v l a1 r w0 w hB (Kd.R_tight rfl ho) h).mono ?_
  rintro e w' ⟨rfl, hr, hb, hk⟩
  exact ⟨rfl, Kd.R_mono hr (fun _ _ => trivial), hb, fun rb o h1 h2 => (hk.2 rb (blk_lt h2) h1).trans h2⟩
theorem weak_rules.r2 (k : Nat) (v : Value) (l : List Int) (a1 : Int) (r : List Int) (w0 w : World) (hB : Below w0.heap.size w0 w) (ho : Kd.R (Kd.int .i64) 3 w w0.heap.size (fun _ => True) v l) (h : weak_letters.f k l a1 = some r) :
    Calls Try.prog 22 #[v, .int .i64 a1] w fun e w' => e = .returned (.tuple #[]) ∧ Kd.R (Kd.int .i64) 3 w' w0.heap.size (fun _ => True) v r ∧ Below w0.heap.size w0 w' ∧ ∀ (rb : Nat) (o : Obj), some rb ≠ v.ownBlock → w.heap[rb]? = some o → w'.heap[rb]? = some o := by
  refine (weak_letters.calls k (fun k => some k = v.ownBlock) v l a1 r w0 w hB (Kd.R_tight rfl ho) h).mono ?_
  rintro e w' ⟨rfl, hr, hb, hk⟩
  exact ⟨rfl, Kd.R_mono hr (fun _ _ => trivial), hb, fun rb o h1 h2 => (hk.2 rb (blk_lt h2) h1).trans h2⟩
theorem weak_rules.r3 (k : Nat) (v : Value) (l : List Int) (a1 : Int) (r : List Int) (w0 w : World) (hB : Below w0.heap.size w0 w) (ho : Kd.R (Kd.int .i64) 3 w w0.heap.size (fun _ => True) v l) (h : weak_single.f k l a1 = some r) :
    Calls Try.prog 23 #[v, .int .i64 a1] w fun e w' => e = .returned (.tuple #[]) ∧ Kd.R (Kd.int .i64) 3 w' w0.heap.size (fun _ => True) v r ∧ Below w0.heap.size w0 w' ∧ ∀ (rb : Nat) (o : Obj), some rb ≠ v.ownBlock → w.heap[rb]? = some o → w'.heap[rb]? = some o := by
  refine (weak_single.calls k (fun k => some k = v.ownBlock) v l a1 r w0 w hB (Kd.R_tight rfl ho) h).mono ?_
  rintro e w' ⟨rfl, hr, hb, hk⟩
  exact ⟨rfl, Kd.R_mono hr (fun _ _ => trivial), hb, fun rb o h1 h2 => (hk.2 rb (blk_lt h2) h1).trans h2⟩
theorem weak_rules.r4 (k : Nat) (v : Value) (l : List Int) (a1 : Int) (r : List Int) (w0 w : World) (hB : Below w0.heap.size w0 w) (ho : Kd.R (Kd.int .i64) 3 w w0.heap.size (fun _ => True) v l) (h : weak_signs.f l a1 = some r) :
    Calls Try.prog 24 #[v, .int .i64 a1] w fun e w' => e = .returned (.tuple #[]) ∧ Kd.R (Kd.int .i64) 3 w' w0.heap.size (fun _ => True) v r ∧ Below w0.heap.size w0 w' ∧ ∀ (rb : Nat) (o : Obj), some rb ≠ v.ownBlock → w.heap[rb]? = some o → w'.heap[rb]? = some o := by
  refine (weak_signs.calls (fun k => some k = v.ownBlock) v l a1 r w0 w hB (Kd.R_tight rfl ho) h).mono ?_
  rintro e w' ⟨rfl, hr, hb, hk⟩
  exact ⟨rfl, Kd.R_mono hr (fun _ _ => trivial), hb, fun rb o h1 h2 => (hk.2 rb (blk_lt h2) h1).trans h2⟩
theorem weak_rules.r5 (k : Nat) (v : Value) (l : List Int) (a1 : Int) (r : List Int) (w0 w : World) (hB : Below w0.heap.size w0 w) (ho : Kd.R (Kd.int .i64) 3 w w0.heap.size (fun _ => True) v l) (h : weak_rest.f k l a1 = some r) :
    Calls Try.prog 25 #[v, .int .i64 a1] w fun e w' => e = .returned (.tuple #[]) ∧ Kd.R (Kd.int .i64) 3 w' w0.heap.size (fun _ => True) v r ∧ Below w0.heap.size w0 w' ∧ ∀ (rb : Nat) (o : Obj), some rb ≠ v.ownBlock → w.heap[rb]? = some o → w'.heap[rb]? = some o := by
  refine (weak_rest.calls k (fun k => some k = v.ownBlock) v l a1 r w0 w hB (Kd.R_tight rfl ho) h).mono ?_
  rintro e w' ⟨rfl, hr, hb, hk⟩
  exact ⟨rfl, Kd.R_mono hr (fun _ _ => trivial), hb, fun rb o h1 h2 => (hk.2 rb (blk_lt h2) h1).trans h2⟩
theorem weak_rules.r6 (k : Nat) (v : Value) (l : List Int) (a1 : Int) (r : List Int) (w0 w : World) (hB : Below w0.heap.size w0 w) (ho : Kd.R (Kd.int .i64) 3 w w0.heap.size (fun _ => True) v l) (h : weak_latin.f l a1 = some r) :
    Calls Try.prog 26 #[v, .int .i64 a1] w fun e w' => e = .returned (.tuple #[]) ∧ Kd.R (Kd.int .i64) 3 w' w0.heap.size (fun _ => True) v r ∧ Below w0.heap.size w0 w' ∧ ∀ (rb : Nat) (o : Obj), some rb ≠ v.ownBlock → w.heap[rb]? = some o → w'.heap[rb]? = some o := by
  refine (weak_latin.calls (fun k => some k = v.ownBlock) v l a1 r w0 w hB (Kd.R_tight rfl ho) h).mono ?_
  rintro e w' ⟨rfl, hr, hb, hk⟩
  exact ⟨rfl, Kd.R_mono hr (fun _ _ => trivial), hb, fun rb o h1 h2 => (hk.2 rb (blk_lt h2) h1).trans h2⟩
set_option maxHeartbeats 2000000 in
set_option maxRecDepth 100000 in
theorem weak_Resolve.bad (k : Nat) (A0 : Option Addr) (c0 : Nat) (l0 : List Int) (a1 : Int) (x : Int) (w : World) (hr0 : Kd.C (Kd.int .i64) w A0 l0.length l0) (hc0 : l0.length ≤ c0) (hmay : weak_may.f k l0 a1 = some x) (hx : x ≠ 0) :
    Calls Try.prog 10 #[.slice A0 l0.length c0, .int .i64 a1] w fun e w' => e = .returned (.tuple #[.slice none 0 0, .int .i64 x]) ∧ Below w.heap.size w w' := by
  have HC := Aside0.mk (show ∀ w5, Below w.heap.size w w5 → Kd.C (Kd.int .i64) w5 A0 l0.length l0 from fun w5 h => Kd.C_below hr0 h)
  have HL0 := Aside0.mk hc0
  have HMAY := Aside0.mk hmay
  have hx' : (x != 0) = true := bne_iff_ne.mpr hx
  have HB1 := Aside0.mk (Below.refl w.heap.size w)
  clear hr0 hc0 hmay hx
  go_enter Try.func10, Try.ntmps10
  go_wp2_with (go_at_call 15; refine (weak_may.calls k A0 c0 l0 a1 x _ (HC.out _ HB1.out) HL0.out HMAY.out).mono ?_; rintro e w1 ⟨rfl, hd1⟩; have HB1 := Aside0.mk (below_step HB1.out (Drawn0.below hd1));  clear hd1)
  go_ret2
  exact ⟨rfl, HB1.out⟩
set_option maxHeartbeats 4000000 in
set_option maxRecDepth 100000 in
theorem weak_Resolve.good (k : Nat) (A0 : Option Addr) (c0 : Nat) (l0 : List Int) (a1 : Int) (w : World) (hr0 : Kd.C (Kd.int .i64) w A0 l0.length l0) (hc0 : l0.length ≤ c0) (l1 : List Int) (l2 : List Int) (l3 : List Int) (l4 : List Int) (l5 : List Int) (l6 : List Int) (l7 : List Int) (hm : l0.length < 17592186044416) (hmay : weak_may.f k l0 a1 = some 0) (h0 : weak_marks.f k l0 a1 = some l1) (h1 : weak_arabic.f l1 a1 = some l2) (h2 : weak_letters.f k l2 a1 = some l3) (h3 : weak_single.f k l3 a1 = some l4) (h4 : weak_signs.f l4 a1 = some l5) (h5 : weak_rest.f k l5 a1 = some l6) (h6 : weak_latin.f l6 a1 = some l7) :
    Calls Try.prog 10 #[.slice A0 l0.length c0, .int .i64 a1] w fun e w' => ∃ v0_ : Value, e = .returned (.tuple #[v0_, .int .i64 0]) ∧ Kd.R (Kd.int .i64) 3 w' w.heap.size (fun _ => True) v0_ l7 ∧ Below w.heap.size w w' := by
  have HC := Aside0.mk (show ∀ w5, Below w.heap.size w w5 → Kd.C (Kd.int .i64) w5 A0 l0.length l0 from fun w5 h => Kd.C_below hr0 h)
  have HM := Aside0.mk hm
  have HL0 := Aside0.mk hc0
  have HMAY := Aside0.mk hmay
  have AH0 := Aside0.mk h0
  have AH1 := Aside0.mk h1
  have AH2 := Aside0.mk h2
  have AH3 := Aside0.mk h3
  have AH4 := Aside0.mk h4
  have AH5 := Aside0.mk h5
  have AH6 := Aside0.mk h6
  have HB1 := Aside0.mk (Below.refl w.heap.size w)
  clear hr0 hc0 hm hmay h0 h1 h2 h3 h4 h5 h6
  go_enter Try.func10, Try.ntmps10
  go_wp2_with (first | (go_at_call 15; refine (weak_may.calls k A0 c0 l0 a1 0 _ (HC.out _ HB1.out) HL0.out HMAY.out).mono ?_; rintro e w1 ⟨rfl, hd1⟩; have HB1 := Aside0.mk (below_step HB1.out (Drawn0.below hd1));  clear hd1) | ((with_reducible refine gate_dst (N := 16) rfl ?_); refine Kd.R_lit (Kd.int .i64) w.heap.size 3 ?hg (N := 16) ?hd (w0 := w) (xs := ([] : List Int)) (inner := []) (ok := fun _ => True) (okp := fun _ => True) ?hr ?hp (fun _ hk => hk) trivial HB1.out HB1.out.size (by simp) ?_; (case hd => rfl); (case hg => rfl); (case hr => first | (go_simp; done) | (go_simp; rfl)); (case hp => exact (Reps.none _ _)); intro v5 w5 ho5 hb5 hg_ hnew_; clear hnew_; have HO5 := Aside0.mk ho5; have HB5 := Aside0.mk hb5; have HG5 := Aside0.mk hg_; clear ho5 hb5 hg_) | ((with_reducible refine gate_builtin (b := .append) (xs := #[.tmp 16, .tmp 17]) rfl ?_); at_builtin; refine Kd.R_append_rows (Kd.int .i64) (w0 := w) w.heap.size rfl (.tmp 16) (.tmp 17) 22 3 (.int .i64 0) 8 rfl Try.underlying22 info3 rfl (by decide) (by omega) v5 [] l0 _ _ _ (fun _ => True) (fun _ => False) rfl rfl ?aO ?aR (fun _ _ h => h) (fun _ h => h.elim) ?aF ?aB ?aS ?aL ?_; (case aR => exact HC.out _ (HB5.out)); (case aB => exact HB5.out); (case aF => exact (fun _ _ => trivial)); (case aO => exact HO5.out); (case aS => exact HB5.out.size); (case aL => have := HM.out; simp; omega); intro v7 w7 ho7 hb7 hg7 hat7; rw [List.nil_append] at ho7; have HO7 := Aside0.mk ho7; have HB7 := Aside0.mk hb7; have HG7 := Aside0.mk hg7; clear ho7 hb7 hg7 hat7) | (go_at_call 16; refine (weak_rules.calls _).mono ?_; rintro e w8 ⟨rfl, hb8, hrb, hlt⟩; have HNE := Aside0.mk (show some w7.heap.size ≠ v7.ownBlock from fun e => Nat.lt_irrefl _ (Kd.R_lt HO7.out _ e.symm)); replace HO7 := Aside0.mk (Kd.R_below HO7.out hb8); replace HB7 := Aside0.mk (below_weaken HB7.out HB7.out.size hb8); have HRB := Aside0.mk hrb; clear hb8 hrb hlt))
  refine wp_loop_rounds 8 ?_
  rw [rounds_succ]
  have hcj0 := blk_cell HRB.out 0
  go_wp2_with (go_at_call 20; refine (weak_rules.r0 k v7 _ _ _ w _ HB7.out HO7.out AH0.out).mono ?_; clear HO7 HB7 AH0; rintro e w7 ⟨rfl, ho7, hb7, hkp⟩; have HO7 := Aside0.mk ho7; have HB7 := Aside0.mk hb7; have HRB := Aside0.mk (hkp _ _ HNE.out HRB.out); clear ho7 hb7 hkp)
  clear hcj0
  rw [rounds_succ]
  have hcj1 := blk_cell HRB.out 1
  go_wp2_with (go_at_call 21; refine (weak_rules.r1 k v7 _ _ _ w _ HB7.out HO7.out AH1.out).mono ?_; clear HO7 HB7 AH1; rintro e w7 ⟨rfl, ho7, hb7, hkp⟩; have HO7 := Aside0.mk ho7; have HB7 := Aside0.mk hb7; have HRB := Aside0.mk (hkp _ _ HNE.out HRB.out); clear ho7 hb7 hkp)
  clear hcj1
  rw [rounds_succ]
  have hcj2 := blk_cell HRB.out 2
  go_wp2_with (go_at_call 22; refine (weak_rules.r2 k v7 _ _ _ w _ HB7.out HO7.out AH2.out).mono ?_; clear HO7 HB7 AH2; rintro e w7 ⟨rfl, ho7, hb7, hkp⟩; have HO7 := Aside0.mk ho7; have HB7 := Aside0.mk hb7; have HRB := Aside0.mk (hkp _ _ HNE.out HRB.out); clear ho7 hb7 hkp)
  clear hcj2
  rw [rounds_succ]
  have hcj3 := blk_cell HRB.out 3
  go_wp2_with (go_at_call 23; refine (weak_rules.r3 k v7 _ _ _ w _ HB7.out HO7.out AH3.out).mono ?_; clear HO7 HB7 AH3; rintro e w7 ⟨rfl, ho7, hb7, hkp⟩; have HO7 := Aside0.mk ho7; have HB7 := Aside0.mk hb7; have HRB := Aside0.mk (hkp _ _ HNE.out HRB.out); clear ho7 hb7 hkp)
  clear hcj3
  rw [rounds_succ]
  have hcj4 := blk_cell HRB.out 4
  go_wp2_with (go_at_call 24; refine (weak_rules.r4 k v7 _ _ _ w _ HB7.out HO7.out AH4.out).mono ?_; clear HO7 HB7 AH4; rintro e w7 ⟨rfl, ho7, hb7, hkp⟩; have HO7 := Aside0.mk ho7; have HB7 := Aside0.mk hb7; have HRB := Aside0.mk (hkp _ _ HNE.out HRB.out); clear ho7 hb7 hkp)
  clear hcj4
  rw [rounds_succ]
  have hcj5 := blk_cell HRB.out 5
  go_wp2_with (go_at_call 25; refine (weak_rules.r5 k v7 _ _ _ w _ HB7.out HO7.out AH5.out).mono ?_; clear HO7 HB7 AH5; rintro e w7 ⟨rfl, ho7, hb7, hkp⟩; have HO7 := Aside0.mk ho7; have HB7 := Aside0.mk hb7; have HRB := Aside0.mk (hkp _ _ HNE.out HRB.out); clear ho7 hb7 hkp)
  clear hcj5
  rw [rounds_succ]
  have hcj6 := blk_cell HRB.out 6
  go_wp2_with (go_at_call 26; refine (weak_rules.r6 k v7 _ _ _ w _ HB7.out HO7.out AH6.out).mono ?_; clear HO7 HB7 AH6; rintro e w7 ⟨rfl, ho7, hb7, hkp⟩; have HO7 := Aside0.mk ho7; have HB7 := Aside0.mk hb7; have HRB := Aside0.mk (hkp _ _ HNE.out HRB.out); clear ho7 hb7 hkp)
  clear hcj6
  rw [rounds_succ]
  go_wp2
  go_ret2
  exact ⟨_, rfl, HO7.out, HB7.out⟩
def weak_rules.app (k j : Nat) (l : List Int) (a1 : Int) : Option (List Int) :=
  if j = 0 then weak_marks.f k l a1 else if j = 1 then weak_arabic.f l a1 else if j = 2 then weak_letters.f k l a1 else if j = 3 then weak_single.f k l a1 else if j = 4 then weak_signs.f l a1 else if j = 5 then weak_rest.f k l a1 else weak_latin.f l a1
def weak_Resolve.all (k : Nat) (l : List Int) (a1 : Int) : Option (List Int) := (weak_marks.f k l a1).bind fun l1 => (weak_arabic.f l1 a1).bind fun l2 => (weak_letters.f k l2 a1).bind fun l3 => (weak_single.f k l3 a1).bind fun l4 => (weak_signs.f l4 a1).bind fun l5 => (weak_rest.f k l5 a1).bind fun l6 => (weak_latin.f l6 a1).bind fun l7 => some l7
def weak_Resolve.f (k : Nat) (l0 : List Int) (a1 : Int) : Option (List Int × Int) := (weak_may.f k l0 a1).bind fun e => if e = 0 then (if l0.length < 17592186044416 then (weak_Resolve.all k l0 a1).bind fun l => some (l, 0) else none) else some ([], e)
theorem weak_Resolve.calls (k : Nat) (A0 : Option Addr) (c0 : Nat) (l0 : List Int) (a1 : Int) (r1 : List Int) (r2 : Int) (w : World) (hr0 : Kd.C (Kd.int .i64) w A0 l0.length l0) (hc0 : l0.length ≤ c0) (h : weak_Resolve.f k l0 a1 = some (r1, r2)) :
    Calls Try.prog 10 #[.slice A0 l0.length c0, .int .i64 a1] w fun e w' => ∃ v0_ : Value, e = .returned (.tuple #[v0_, .int .i64 r2]) ∧ Kd.R (Kd.int .i64) 3 w' w.heap.size (fun _ => True) v0_ r1 ∧ Below w.heap.size w w' := by
  unfold weak_Resolve.f at h
  obtain ⟨e, he, h⟩ := Option.bind_eq_some_iff.mp h
  by_cases hz : e = 0
  · subst hz
    rw [if_pos rfl] at h
    split at h
    · rename_i hm
      obtain ⟨l, hl, h⟩ := Option.bind_eq_some_iff.mp h
      simp only [Option.some.injEq, Prod.mk.injEq] at h
      obtain ⟨rfl, rfl⟩ := h
      unfold weak_Resolve.all at hl
      obtain ⟨l1, h0, hl⟩ := Option.bind_eq_some_iff.mp hl
      obtain ⟨l2, h1, hl⟩ := Option.bind_eq_some_iff.mp hl
      obtain ⟨l3, h2, hl⟩ := Option.bind_eq_some_iff.mp hl
      obtain ⟨l4, h3, hl⟩ := Option.bind_eq_some_iff.mp hl
      obtain ⟨l5, h4, hl⟩ := Option.bind_eq_some_iff.mp hl
      obtain ⟨l6, h5, hl⟩ := Option.bind_eq_some_iff.mp hl
      obtain ⟨l7, h6, hl⟩ := Option.bind_eq_some_iff.mp hl
      injection hl with hl
      subst hl
      exact weak_Resolve.good k A0 c0 l0 a1 w hr0 hc0 l1 l2 l3 l4 l5 l6 l7 hm he h0 h1 h2 h3 h4 h5 h6
    · cases h
  · rw [if_neg hz] at h
    simp only [Option.some.injEq, Prod.mk.injEq] at h
    obtain ⟨rfl, rfl⟩ := h
    refine (weak_Resolve.bad k A0 c0 l0 a1 e w hr0 hc0 he hz).mono ?_
    rintro e' w' ⟨rfl, hb⟩
    exact ⟨_, rfl, Kd.R_nil _ _ _ _ _, hb⟩
theorem weak_Resolve.mono : ∀ a0 a1 k, LeO (weak_Resolve.f k a0 a1) (weak_Resolve.f (k + 1) a0 a1) := by
  intro a0 a1 k
  unfold weak_Resolve.f weak_Resolve.all
  repeat' first
      | (with_reducible exact weak_may.mono _ _ _)
      | (with_reducible exact weak_marks.mono _ _ _)
      | (with_reducible exact weak_letters.mono _ _ _)
      | (with_reducible exact weak_single.mono _ _ _)
      | (with_reducible exact weak_rest.mono _ _ _)
      | (with_reducible exact LeO.refl _)
      | (with_reducible exact LeO.none _)
      | (with_reducible refine LeO.ite ?_ ?_)
      | (with_reducible refine LeO.bind ?_ (fun _ => ?_))

/-! ### colophonref01_Ints: function 12 -/
def colophonref01_Ints.l0 : Nat → List Int → List Int → Int → Option (Bool)
  | 0, _, _, _ => none
  | k + 1, x0, x1, x5 => if x5 < (x0.length : Int) then (if 0 ≤ x5 then (if x5 < (x1.length : Int) then (if (rd x0 x5) = (rd x1 x5) then (colophonref01_Ints.l0 k x0 x1 (wrap64 (x5 + 1))) else (some false)) else (none)) else (none)) else (some true)
def colophonref01_Ints.f (k : Nat) (l0 : List Int) (l1 : List Int) : Option (Bool) := if (l0.length : Int) = (l1.length : Int) then (colophonref01_Ints.l0 k l0 l1 0) else (some false)
theorem colophonref01_Ints.mono_l : ∀ k, (∀ y0 y1 y2, LeO (colophonref01_Ints.l0 k y0 y1 y2) (colophonref01_Ints.l0 (k + 1) y0 y1 y2))
  | 0 => fun _ _ _ r h => by simp [colophonref01_Ints.l0] at h
  | k + 1 => by
    have ih0 := colophonref01_Ints.mono_l k
    · intro y0 y1 y2
      unfold colophonref01_Ints.l0
      repeat' first
      | (with_reducible exact ih0 _ _ _)
      | (with_reducible exact LeO.refl _)
      | (with_reducible exact LeO.none _)
      | (with_reducible refine LeO.ite ?_ ?_)
      | (with_reducible refine LeO.bind ?_ (fun _ => ?_))
      | exact ih0 _ _ _
      | exact LeO.none _
      | refine LeO.ite ?_ ?_
      | refine LeO.bind ?_ (fun _ => ?_)
theorem colophonref01_Ints.mono : ∀ a0 a1 k, LeO (colophonref01_Ints.f k a0 a1) (colophonref01_Ints.f (k + 1) a0 a1) := by
  intro a0 a1 k
  have ih0 := colophonref01_Ints.mono_l k
  unfold colophonref01_Ints.f
  repeat' first
      | (with_reducible exact ih0 _ _ _)
      | (with_reducible exact LeO.refl _)
      | (with_reducible exact LeO.none _)
      | (with_reducible refine LeO.ite ?_ ?_)
      | (with_reducible refine LeO.bind ?_ (fun _ => ?_))
      | exact ih0 _ _ _
      | exact LeO.none _
      | refine LeO.ite ?_ ?_
      | refine LeO.bind ?_ (fun _ => ?_)
set_option maxHeartbeats 8000000 in
set_option maxRecDepth 100000 in
theorem colophonref01_Ints.calls (k : Nat) (A0 : Option Addr) (c0 : Nat) (l0 : List Int) (A1 : Option Addr) (c1 : Nat) (l1 : List Int) (r : Bool) (w : World) (hr0 : Kd.C (Kd.int .i64) w A0 l0.length l0) (hc0 : l0.length ≤ c0) (hr1 : Kd.C (Kd.int .i64) w A1 l1.length l1) (hc1 : l1.length ≤ c1) (h : colophonref01_Ints.f k l0 l1 = some r) :
    Calls Try.prog 12 #[.slice A0 l0.length c0, .slice A1 l1.length c1] w fun e w' => e = .returned (.bool r) ∧ Drawn0 w w' := by
  have HR0 := Aside0.mk hr0
  have HC0 := Aside0.mk hc0
  clear hr0 hc0
  have HR1 := Aside0.mk hr1
  have HC1 := Aside0.mk hc1
  clear hr1 hc1
  have H : (if (l0.length : Int) = (l1.length : Int) then (colophonref01_Ints.l0 k l0 l1 0) else (some false)) = some r := h
  clear h
  by_cases c3 : (l0.length : Int) = (l1.length : Int)
  · rw [if_pos c3] at H
    have c3b0 : ((l0.length : Int) == (l1.length : Int)) = true := beq_iff_eq.mpr c3
    have c3b1 : ((l0.length : Int) != (l1.length : Int)) = false := bne_eq_false_iff_eq.mpr c3
    have c3b2 : (l0.length == l1.length) = true := by first | simpa using c3 | (simp at c3 ⊢; omega)
    clear c3
    have H' := Aside0.mk H
    clear H
    go_enter Try.func12, Try.ntmps12
    go_wp2
    repeat (go_quiet (fail); try go_wp2)
    go_loopg [5] k (fun kq v5 w' => ∃ (x5_1 : Int), v5 = .int .i64 x5_1 ∧ Aside0 (colophonref01_Ints.l0 kq l0 l1 x5_1 = some r) ∧ Aside0 (kq ≤ k) ∧ Drawn0 w w')
    case atStart => exact ⟨(0), (by first | rfl | (simp; done) | (simp [*]; done)), H', ⟨Nat.le_refl _⟩, by repeat (first | exact Drawn0.refl _ | apply Drawn0.step)⟩
    case round =>
      clear H'
      try clear c1
      try clear p2
      try clear c3
      try clear c3b0
      try clear c3b1
      try clear c3b2
      obtain ⟨x5_1, rfl, HA, HK1, ⟨m1, rfl⟩⟩ := hrel
      cases gk with
      | zero => exact absurd HA.out (by simp [colophonref01_Ints.l0])
      | succ k1 =>
        have H := HA.out
        clear HA
        simp only [colophonref01_Ints.l0] at H
        by_cases c4 : x5_1 < (l0.length : Int)
        · rw [if_pos c4] at H
          have c4b0 : decide (x5_1 < (l0.length : Int)) = true := decide_eq_true c4
          clear c4
          by_cases c5 : 0 ≤ x5_1
          · rw [if_pos c5] at H
            have c5b0 : decide (0 ≤ x5_1) = true := decide_eq_true c5
            clear c5
            by_cases c6 : x5_1 < (l1.length : Int)
            · rw [if_pos c6] at H
              have c6b0 : decide (x5_1 < (l1.length : Int)) = true := decide_eq_true c6
              clear c6
              by_cases c7 : (rd l0 x5_1) = (rd l1 x5_1)
              · rw [if_pos c7] at H
                have c7b0 : ((rd l0 x5_1) == (rd l1 x5_1)) = true := beq_iff_eq.mpr c7
                have c7b1 : ((rd l0 x5_1) != (rd l1 x5_1)) = false := bne_eq_false_iff_eq.mpr c7
                clear c7
                have H' := Aside0.mk H
                clear H
                have p121 : 0 ≤ (x5_1 : Int) := of_decide_eq_true (by first | (with_reducible assumption) | assumption)
                have q121 : x5_1 < (l0.length : Int) := of_decide_eq_true (by first | (with_reducible assumption) | assumption)
                obtain ⟨ad121, e121, hx121_0⟩ := Kd.at_int HR0.out x5_1 p121 q121
                cases e121
                replace p121 := eq_true p121
                replace q121 := eq_true q121
                have p122 : 0 ≤ (x5_1 : Int) := of_decide_eq_true (by first | (with_reducible assumption) | assumption)
                have q122 : x5_1 < (l1.length : Int) := of_decide_eq_true (by first | (with_reducible assumption) | assumption)
                obtain ⟨ad122, e122, hx122_0⟩ := Kd.at_int HR1.out x5_1 p122 q122
                cases e122
                replace p122 := eq_true p122
                replace q122 := eq_true q122
                go_wp2
                repeat (go_quiet (fail); try go_wp2)
                go_roundg k1
                case measure => have := HK1.out; omega
                case rel => exact ⟨(wrap64 (x5_1 + 1)), (by first | rfl | (simp; done) | (simp [*]; done)), H', ⟨by have := HK1.out; omega⟩, by repeat (first | exact Drawn0.refl _ | apply Drawn0.step)⟩
              · rw [if_neg c7] at H
                have c7b0 : ((rd l0 x5_1) == (rd l1 x5_1)) = false := beq_eq_false_iff_ne.mpr c7
                have c7b1 : ((rd l0 x5_1) != (rd l1 x5_1)) = true := bne_iff_ne.mpr c7
                obtain rfl := Option.some.inj H
                have p121 : 0 ≤ (x5_1 : Int) := of_decide_eq_true (by first | (with_reducible assumption) | assumption)
                have q121 : x5_1 < (l0.length : Int) := of_decide_eq_true (by first | (with_reducible assumption) | assumption)
                obtain ⟨ad121, e121, hx121_0⟩ := Kd.at_int HR0.out x5_1 p121 q121
                cases e121
                replace p121 := eq_true p121
                replace q121 := eq_true q121
                have p122 : 0 ≤ (x5_1 : Int) := of_decide_eq_true (by first | (with_reducible assumption) | assumption)
                have q122 : x5_1 < (l1.length : Int) := of_decide_eq_true (by first | (with_reducible assumption) | assumption)
                obtain ⟨ad122, e122, hx122_0⟩ := Kd.at_int HR1.out x5_1 p122 q122
                cases e122
                replace p122 := eq_true p122
                replace q122 := eq_true q122
                go_wp2
                repeat (go_quiet (fail); try go_wp2)
                go_ret
                exact ⟨by first | rfl | (simp; done) | (simp [*]; done), by repeat (first | exact Drawn0.refl _ | apply Drawn0.step)⟩
            · rw [if_neg c6] at H
              exact absurd H (by simp)
          · rw [if_neg c5] at H
            exact absurd H (by simp)
        · rw [if_neg c4] at H
          have c4b0 : decide (x5_1 < (l0.length : Int)) = false := decide_eq_false c4
          clear c4
          obtain rfl := Option.some.inj H
          go_wp2
          repeat (go_quiet (fail); try go_wp2)
          go_ret
          exact ⟨by first | rfl | (simp; done) | (simp [*]; done), by repeat (first | exact Drawn0.refl _ | apply Drawn0.step)⟩
  · rw [if_neg c3] at H
    have c3b0 : ((l0.length : Int) == (l1.length : Int)) = false := beq_eq_false_iff_ne.mpr c3
    have c3b1 : ((l0.length : Int) != (l1.length : Int)) = true := bne_iff_ne.mpr c3
    have c3b2 : (l0.length == l1.length) = false := by first | simpa using c3 | (simp at c3 ⊢; omega)
    obtain rfl := Option.some.inj H
    go_enter Try.func12, Try.ntmps12
    go_wp2
    repeat (go_quiet (fail); try go_wp2)
    go_ret
    exact ⟨by first | rfl | (simp; done) | (simp [*]; done), by repeat (first | exact Drawn0.refl _ | apply Drawn0.step)⟩

end Go.Proofs.Ytckajjoliiefdaa.PW
