/- YtdpflafjfkooeaaGreatDoorZ20: a part of the proof, joined of its texts. -/
import Derived.Test.YtdpflafjfkooeaaGreatDoorZ19
/- G16: the iterator of slices.Backward. -/
namespace Go.Proofs.YtdpflafjfkooeaaGreatDoorG
open Go Go.RowKit
set_option linter.unusedVariables false
set_option linter.unusedSimpArgs false
/-- A region's operations, one behind the other (none is guarded, none defers). -/
def wpL (F : Fence) (n : Nat) (P : Program) (Q : Exit → Act → World → Prop) : List Oper → Act → World → Prop
  | [], a, w => Q .normal a w
  | o :: r, a, w => o.guard = none ∧ (∀ c, o.op ≠ .defer c) ∧ o.wpIn F n P a w (wpL F n P Q r) Q
theorem wpL_ops {F : Fence} {n : Nat} {P : Program} {Q : Exit → Act → World → Prop} {ops : Array Oper} : ∀ (l : List Oper) (k : Nat) (a : Act) (w : World), (∀ j, ops[k + j]? = l[j]?) → wpL F n P Q l a w → wpOpsIn F n P ops Q (List.range' k l.length) a w
  | [], k, a, w, _, h => h
  | o :: r, k, a, w, hl, ⟨h1, h2, h3⟩ => by
    have ho : ops[k]? = some o := by simpa using hl 0
    rw [List.length_cons, List.range'_succ, wpOpsIn_cons]
    unfold wpOpIn
    simp only [ho]
    rw [if_pos (by simp [Region.wanted, h1])]
    exact Oper.wpIn_mono (fun a w h => wpL_ops r (k + 1) a w (fun j => by have := hl (j + 1); rw [show k + 1 + j = k + (j + 1) by omega]; simpa using this) h) h3
theorem wpIn_L {F : Fence} {n : Nat} {P : Program} {Q : Exit → Act → World → Prop} {id : Nat} {l : List Oper} {a : Act} {w : World} (h : wpL F n P Q l a w) : (Code.region id l.toArray false).wpIn F n P Q a w := by
  refine wpIn_region ?_
  rw [List.range_eq_range']
  exact wpL_ops l 0 a w (fun j => by simp) h
theorem wpL_val {F : Fence} {n : Nat} {P : Program} {Q : Exit → Act → World → Prop} {r : List Oper} {a : Act} {w w' : World} {o : Oper} {v : Value} (hF : ∀ f, F.fn f) (hg : o.guard = none) (hnd : ∀ c, o.op ≠ .defer c)
    (hrun : (execOp a.eval o).run P w = .ok (.value v) w') (hk : wpL F n P Q r (a.put o.dst v) w') : wpL F n P Q (o :: r) a w := by
  refine ⟨hg, hnd, fun f _ => hF f, ?_⟩
  rw [Oper.semAt_eq _ _ _ hnd, hrun]
  exact hk
theorem wpL_rnd {F : Fence} {n : Nat} {P : Program} {Q : Exit → Act → World → Prop} {r : List Oper} {a : Act} {w : World} {o : Oper} {l f tmps x y} {R : Ending → World → Prop} (hF : ∀ f, F.fn f) (hd : F.depth = none) (hg : o.guard = none) (hnd : ∀ c, o.op ≠ .defer c)
    (hrun : (execOp a.eval o).run P w = .ok (.round l f tmps x y) w) (hR : RoundIn F (n - 1) P l f tmps x y w R) (hk : ∀ e w', R e w' → ∃ v, e = .returned v ∧ wpL F n P Q r (a.put o.dst v) w') : wpL F n P Q (o :: r) a w := by
  refine ⟨hg, hnd, fun f _ => hF f, ?_⟩
  rw [Oper.semAt_eq _ _ _ hnd, hrun]
  refine ⟨fun hh => by simp [hd] at hh, hR.mono fun e w' he => ?_⟩
  obtain ⟨v, rfl, h⟩ := hk e w' he
  exact h
theorem wpL_end {F n P Q a w} (h : Q .normal a w) : wpL F n P Q [] a w := h
theorem put_get (a : Act) (d i : Nat) (v : Value) (hd : d < a.tmps.size) : (a.put (some d) v).tmps.getD i undef = if i = d then v else a.tmps.getD i undef := put_getD a d i v hd
theorem put_size (a : Act) (d : Option Nat) (v : Value) : (a.put d v).tmps.size = a.tmps.size := by cases d <;> simp [Act.put]
theorem put_df (a : Act) (d : Option Nat) (v : Value) : (a.put d v).defers = a.defers := by cases d <;> rfl
theorem ev_t (a : Act) (t : Nat) : a.eval (.tmp t) = a.tmps.getD t undef := rfl
/-- The code of the iterator that slices.Backward gives (tS: the slice's type, tE: an element's, tY: yield's). -/
def backCode (tS tE tY : Nat) : Code :=
  (Code.region 0 #[{ dst := some 4, op := .load tS (.tmp 1), type := tS, pos := "iter.go:28", after := #[], guard := none },
      { dst := some 5, op := .call { callee := .builtin .len, args := #[.tmp 4], argTypes := #[tS] }, type := 3, pos := "iter.go:28", after := #[{ on := 0, ground := .data }], guard := none },
      { dst := some 6, op := .binOp .sub 3 (.tmp 5) (.const (.int .i64 1)) 3, type := 3, pos := "iter.go:28", after := #[{ on := 1, ground := .data }], guard := none },
      { dst := some 3, op := .assign (.tmp 6), type := 3, pos := "iter.go:28", after := #[{ on := 2, ground := .data }, { on := 0, ground := .phase }, { on := 1, ground := .phase }, { on := 2, ground := .phase }], guard := none }] false).seq
  (.block 0 (.loop
    (((Code.region 1 #[{ dst := some 7, op := .move (.tmp 3), type := 3, pos := "iter.go:28", after := #[], guard := none },
        { dst := some 8, op := .binOp .geq 3 (.tmp 7) (.const (.int .i64 0)) 3, type := 4, pos := "iter.go:28", after := #[{ on := 0, ground := .data }], guard := none }] false).seq
      (.cond (.tmp 8) .skip (.exit 0))).seq
    ((Code.block 1 ((Code.region 3 #[{ dst := some 11, op := .move (.tmp 0), type := tY, pos := "iter.go:29", after := #[], guard := none },
        { dst := some 12, op := .move (.tmp 3), type := 3, pos := "iter.go:29", after := #[], guard := none },
        { dst := some 13, op := .load tS (.tmp 1), type := tS, pos := "iter.go:29", after := #[], guard := none },
        { dst := some 14, op := .move (.tmp 3), type := 3, pos := "iter.go:29", after := #[], guard := none },
        { dst := some 15, op := .indexAddr tS (.tmp 13) (.tmp 14), type := 0, pos := "iter.go:29", after := #[{ on := 2, ground := .data }, { on := 3, ground := .data }], guard := none },
        { dst := some 16, op := .load tE (.tmp 15), type := tE, pos := "iter.go:29", after := #[{ on := 4, ground := .data }], guard := none },
        { dst := some 17, op := .call { callee := .value (.tmp 11), args := #[.tmp 12, .tmp 16], argTypes := #[3, tE] }, type := 4, pos := "iter.go:29", after := #[{ on := 0, ground := .data }, { on := 1, ground := .data }, { on := 5, ground := .data }], guard := none },
        { dst := some 18, op := .unOp .not 4 (.tmp 17), type := 4, pos := "iter.go:29", after := #[{ on := 6, ground := .data }], guard := none }] false).seq
      (.cond (.tmp 18) .ret .skip))).seq
    (Code.region 2 #[{ dst := some 9, op := .move (.tmp 3), type := 3, pos := "iter.go:28", after := #[], guard := none },
        { dst := some 10, op := .binOp .sub 3 (.tmp 9) (.const (.int .i64 1)) 3, type := 3, pos := "iter.go:28", after := #[{ on := 0, ground := .data }], guard := none },
        { dst := some 3, op := .assign (.tmp 10), type := 3, pos := "iter.go:28", after := #[{ on := 1, ground := .data }, { on := 0, ground := .phase }, { on := 1, ground := .phase }], guard := none }] false)))))
/-- What is handed over at place i. -/
def elemX (agg : Bool) (e : Nat) (xs : List SV) (i : Nat) : X := if agg then .p (.agg ((List.range e).map fun j => .v (svAt xs (i * e + j)))) else .p (.one (.v (svAt xs (i * e))))
theorem elemX_sval (agg e xs i) : SVal (elemX agg e xs i) := by
  unfold elemX
  split
  · intro x hx; obtain ⟨j, _, rfl⟩ := List.mem_map.1 hx; exact ⟨_, rfl⟩
  · trivial
/-- An element, loaded. -/
theorem run_elem {P t i} (hi : TIok P t i) (h1 : i.k.agg = false → i.size = 1) {w : World} {o : Nat → Tag} {g : Gh} (hg : g.o = o) {b off : Nat} {xs : List SV} {us : List Value} (hu : us.length = xs.length) (hm : ∀ j u, us[j]? = some u → w.cell? ⟨b, off + j, none⟩ = some u)
    (hr : ∀ (j : Nat) u x, us[j]? = some u → xs[j]? = some x → SVR w o u x) {k : Nat} (hk : k * i.size + i.size ≤ xs.length) (h0 : 0 < i.size) :
    ∃ v, (Instr.loadAt t (.pointer (some ⟨b, off + k * i.size, none⟩))).run P w = .ok v w ∧ XR w g v (elemX i.k.agg i.size xs k) := by
  have hc : Cells w g (.pointer (some ⟨b, off + k * i.size, none⟩)) (xs.map .v) (k * i.size) := ⟨b, off, us, rfl, hm, All2.svTv ⟨hu, fun j u x a b => hg ▸ hr j u x a b⟩⟩
  unfold elemX
  cases ha : i.k.agg with
  | true =>
    obtain ⟨v, q1, q2⟩ := hc.agg hi ha (by simpa using hk)
    rw [slice_eq_map _ _ _ (by simpa using hk)] at q2
    refine ⟨v, q1, ?_⟩
    rw [if_pos rfl]
    have e : (List.range i.size).map (fun j => TV.v (svAt xs (k * i.size + j))) = (List.range i.size).map fun j => tvAt (xs.map .v) (k * i.size + j) := List.map_congr_left fun j hj => by
      have : k * i.size + j < xs.length := by have := List.mem_range.1 hj; omega
      simp [tvAt, svAt, List.getD, this]
    rw [e]
    exact q2
  | false =>
    have hlt : k * i.size < xs.length := by omega
    obtain ⟨v, q1, q2⟩ := hc.one hi ha (x := .v (svAt xs (k * i.size))) (by simp [svAt, List.getD, hlt])
    exact ⟨v, q1, by rw [if_neg (by simp)]; exact q2⟩
/-- What the iterator's activation holds between two rounds. -/
structure Bk (Y u : Value) (a : Act) (z : Int) : Prop where
  size : a.tmps.size = 19
  df : a.defers = []
  y : a.tmps.getD 0 undef = Y
  p : a.tmps.getD 1 undef = u
  z : a.tmps.getD 3 undef = .int .i64 z
theorem run_sub {P : Program} {z : Int} (h1 : -9223372036854775808 ≤ z - 1) (h2 : z - 1 ≤ 9223372036854775807) {w : World} {xt : TypeId} {x y : Operand} :
    (do eqGuard .sub xt x y (.int .i64 z) (.int .i64 1); binOp .sub xt (.int .i64 z) (.int .i64 1) : Sem Value).run P w = .ok (.int .i64 (z - 1)) w := by
  obtain ⟨v, hs, hk, hv⟩ := run_int (P := P) (op := .sub) (k := .i64) (k' := .i64) (a := z) (b := 1) (K := fun v => v = .int .i64 (z - 1)) ⟨rfl, by rw [wrap_in h1 h2]⟩
  rw [hv, hk]
theorem run_ge0 {P : Program} {z : Int} {w : World} {xt : TypeId} {x y : Operand} :
    (do eqGuard .geq xt x y (.int .i64 z) (.int .i64 0); binOp .geq xt (.int .i64 z) (.int .i64 0) : Sem Value).run P w = .ok (.bool (decide (0 ≤ z))) w := by
  obtain ⟨v, hs, hk, hv⟩ := run_int (P := P) (op := .geq) (k := .i64) (k' := .i64) (a := z) (b := 0) (K := fun v => v = .bool (decide (0 ≤ z))) ⟨rfl, fun h => by simp [h], fun h => by simp [h]⟩
  rw [hv, hk]
theorem backward_iter {P : Program} {T : Tab} (hT : Tok P T) {f : Nat} {fn : Func} {tS tE tY s0 b0 : Nat} {z0 : List ZC} {iE : TI} (hf : P.funcs[f]? = some fn) (hb : fn.body = some (backCode tS tE tY)) (hnt : fn.ntmps = 19) (hres : fn.results = #[]) (hcb : callableB fn = true)
    (hS : T tS = some ⟨.slice tE, s0, b0, z0⟩) (hE : T tE = some iE) (hE1 : iE.k.agg = false → iE.size = 1) (h0 : 0 < iE.size) (xs : List SV) (n : Nat) (hx : xs.length = n * iE.size) (hn : n ≤ 1000000) :
    IterOk P f [.pt [.sl iE.size xs] 0] ((List.range n).map fun j => [i64 ((n : Int) - 1 - (j : Nat)), elemX iE.k.agg iE.size xs (n - 1 - j)]) := by
  refine ⟨callable_of hf hcb, fun ys hys x hx => ?_, ?_⟩
  · obtain ⟨j, _, rfl⟩ := List.mem_map.1 hys
    simp only [List.mem_cons, List.not_mem_nil, or_false] at hx
    rcases hx with rfl | rfl
    · trivial
    · exact elemX_sval _ _ _ _
  intro w vs g hg hlt hgr hcap l J Jx hY hJ0
  obtain ⟨u, rfl⟩ : ∃ u, vs = [u] := by
    have := hcap.1
    cases vs with
    | nil => simp at this
    | cons u r => cases r with
      | nil => exact ⟨u, rfl⟩
      | cons _ _ => simp at this
  have hu : SVR w g.o u (.pt [.sl iE.size xs] 0) := hcap.head
  obtain ⟨b, off, us, hup, hbi, hul, hc, hr⟩ := hu.cpr
  obtain ⟨v, rfl⟩ : ∃ v, us = [v] := by
    cases us with
    | nil => simp at hul
    | cons u r => cases r with
      | nil => exact ⟨u, rfl⟩
      | cons _ _ => simp at hul
  have hcell : w.cell? ⟨b, off, none⟩ = some v := by simpa using hc 0 v rfl
  have hv : SVR w g.o v (.sl iE.size xs) := hr 0 v _ rfl rfl
  obtain ⟨ad, cap, hvs, hmem⟩ : ∃ ad cap, v = .slice ad n cap ∧ (0 < n → ∃ b' off', ∃ us : List Value, ad = some ⟨b', off', none⟩ ∧ g.o b' = .imm ∧ us.length = xs.length ∧ (∀ j u, us[j]? = some u → w.cell? ⟨b', off' + j, none⟩ = some u) ∧ ∀ (j : Nat) u x, us[j]? = some u → xs[j]? = some x → SVR w g.o u x) := by
    cases hv with
    | nil a cap _ _ =>
      have hn0 : n = 0 := by
        have : n * iE.size = 0 := by simpa using hx.symm
        rcases Nat.mul_eq_zero.1 this with h | h <;> omega
      subst hn0
      exact ⟨a, cap, rfl, fun h => by omega⟩
    | sl b' off' len cap _ _ us hb' he hl hxl hc' hul' hm' hr' =>
      have : len = n := Nat.eq_of_mul_eq_mul_right he (by rw [← hxl, hx])
      subst this
      exact ⟨_, cap, rfl, fun _ => ⟨b', off', us, rfl, hb', hul', hm', hr'⟩⟩
  have hup' : u = .pointer (some ⟨b, off, none⟩) := by simpa using hup
  -- what is read is there in whatever world keeps what does not change
  have hcell' : ∀ w1 : World, (∀ b, g.o b = .imm → w1.heap[b]? = w.heap[b]?) → w1.cell? ⟨b, off, none⟩ = some v := fun w1 h => (World.cell?_of_block (h b hbi)).trans hcell
  have hSi := hT tS _ hS
  have hload : ∀ w1 : World, (∀ b, g.o b = .imm → w1.heap[b]? = w.heap[b]?) → (Instr.loadAt tS u).run P w1 = .ok (.slice ad n cap) w1 := fun w1 h => by
    rw [hup']; simp only [Instr.loadAt, Instr.sureAddr]; rw [← hvs]; exact run_loadVar_one hSi rfl (hcell' w1 h)
  obtain ⟨Y, hYd⟩ : ∃ Y, Y = Value.func (.yield l) #[] #[] := ⟨_, rfl⟩
  rw [← hYd]
  refine callsIn_wide.1 (callsIn_of_wp (F := Fence.wide) (n := 0) hf hb trivial ?_ rfl)
  rw [hnt]
  obtain ⟨a0, ha0⟩ : ∃ a0 : Act, a0 = { tmps := [Y, u].toArray ++ Array.replicate (19 - [Y, u].toArray.size) undef, defers := [] } := ⟨_, rfl⟩
  rw [← ha0]
  have s0 : a0.tmps.size = 19 := by rw [ha0]; simp
  have d0 : a0.defers = [] := by rw [ha0]
  have y0 : a0.tmps.getD 0 undef = Y := by rw [ha0]; simp [Array.getD_eq_getD_getElem?, Array.getElem?_append]
  have p0 : a0.tmps.getD 1 undef = u := by rw [ha0]; simp [Array.getD_eq_getD_getElem?, Array.getElem?_append]
  clear ha0
  unfold backCode
  refine wpIn_seq (wpIn_L ?_)
  refine wpL_val (fun _ => trivial) rfl (by simp) (v := .slice ad n cap) (w' := w) ?_ ?_
  · simp only [execOp, ev_t, p0]; exact run_v (hload w fun _ _ => rfl)
  refine wpL_val (fun _ => trivial) rfl (by simp) (v := .int .i64 (n : Int)) (w' := w) ?_ ?_
  · rw [run_call_builtin (b := .len) rfl rfl]
    have hq : (a0.put (some 4) (.slice ad n cap)).tmps.getD 4 undef = .slice ad n cap := by simp only [put_get, put_size, Nat.reduceLT, Nat.reduceEqDiff, ↓reduceIte, s0]
    have hl : (Builtin.len_ #[tS] 3 #[(a0.put (some 4) (.slice ad n cap)).eval (.tmp 4)]).run P w = .ok (.int .i64 (n : Int)) w := by
      rw [ev_t, hq]; simp [Builtin.len_, run_underlying (hSi.slice rfl), goInt, go_sem]
    exact run_v (by simpa using hl)
  refine wpL_val (fun _ => trivial) rfl (by simp) (v := .int .i64 ((n : Int) - 1)) (w' := w) ?_ ?_
  · simp only [execOp, ev_t]
    have e : (((a0.put (some 4) (.slice ad n cap)).put (some 5) (.int .i64 (n : Int))).tmps.getD 5 undef) = .int .i64 (n : Int) := by simp only [put_get, put_size, Nat.reduceLT, Nat.reduceEqDiff, ↓reduceIte, s0]
    rw [e]
    exact run_v (run_sub (by omega) (by omega))
  refine wpL_val (fun _ => trivial) rfl (by simp) (v := .int .i64 ((n : Int) - 1)) (w' := w) ?_ (wpL_end ?_)
  · simp only [execOp, ev_t]
    rw [put_get _ _ _ _ (by simp [put_size, s0])]
    rfl
  have hinv : Bk Y u ((((a0.put (some 4) (.slice ad n cap)).put (some 5) (.int .i64 (n : Int))).put (some 6) (.int .i64 ((n : Int) - 1))).put (some 3) (.int .i64 ((n : Int) - 1))) ((n : Int) - 1 - (0 : Nat)) :=
    ⟨by simp [put_size, s0], by simp [put_df, d0], by simp only [put_get, put_size, Nat.reduceLT, Nat.reduceEqDiff, ↓reduceIte, s0, y0], by simp only [put_get, put_size, Nat.reduceLT, Nat.reduceEqDiff, ↓reduceIte, s0, p0], by simp only [put_get, put_size, Nat.reduceLT, Nat.reduceEqDiff, ↓reduceIte, s0]; simp⟩
  generalize ((((a0.put (some 4) (.slice ad n cap)).put (some 5) (.int .i64 (n : Int))).put (some 6) (.int .i64 ((n : Int) - 1))).put (some 3) (.int .i64 ((n : Int) - 1))) = a1 at hinv
  clear s0 d0 y0 p0
  show Code.wpIn Fence.wide 0 P _ _ a1 w
  refine wpIn_block ?_
  refine wpIn_loop_ghost (fun m a w1 => ∃ k, m = n - k ∧ k ≤ n ∧ Bk Y u a ((n : Int) - 1 - (k : Nat)) ∧ J k w1 ∧ w.heap.size ≤ w1.heap.size ∧ ∀ b, g.o b = .imm → w1.heap[b]? = w.heap[b]?) (m := n) ⟨0, rfl, Nat.zero_le _, hinv, hJ0, Nat.le_refl _, fun _ _ => rfl⟩ ?_
  rintro _ a w1 ⟨k, rfl, hk, ⟨hs, hd, hy, hp, hz⟩, hJ, hsz, him⟩
  refine wpIn_seq (wpIn_seq (wpIn_L ?_))
  refine wpL_val (fun _ => trivial) rfl (by simp) (v := .int .i64 ((n : Int) - 1 - (k : Nat))) (w' := w1) ?_ ?_
  · simp only [execOp, ev_t, hz]; rfl
  refine wpL_val (fun _ => trivial) rfl (by simp) (v := .bool (decide ((0 : Int) ≤ (n : Int) - 1 - (k : Nat)))) (w' := w1) ?_ (wpL_end ?_)
  · simp only [execOp, ev_t]
    rw [put_get _ _ _ _ (by omega), if_pos rfl]
    exact run_v run_ge0
  have hinv2 : Bk Y u ((a.put (some 7) (.int .i64 ((n : Int) - 1 - (k : Nat)))).put (some 8) (.bool (decide ((0 : Int) ≤ (n : Int) - 1 - (k : Nat))))) ((n : Int) - 1 - (k : Nat)) ∧ ((a.put (some 7) (.int .i64 ((n : Int) - 1 - (k : Nat)))).put (some 8) (.bool (decide ((0 : Int) ≤ (n : Int) - 1 - (k : Nat))))).tmps.getD 8 undef = .bool (decide ((0 : Int) ≤ (n : Int) - 1 - (k : Nat))) :=
    ⟨⟨by simp [put_size, hs], by simp [put_df, hd], by simp only [put_get, put_size, Nat.reduceLT, Nat.reduceEqDiff, ↓reduceIte, hs, hy], by simp only [put_get, put_size, Nat.reduceLT, Nat.reduceEqDiff, ↓reduceIte, hs, hp], by simp only [put_get, put_size, Nat.reduceLT, Nat.reduceEqDiff, ↓reduceIte, hs, hz]⟩, by simp only [put_get, put_size, Nat.reduceLT, Nat.reduceEqDiff, ↓reduceIte, hs]⟩
  clear hs hd hy hp hz
  generalize (a.put (some 7) (.int .i64 ((n : Int) - 1 - (k : Nat)))).put (some 8) (.bool (decide ((0 : Int) ≤ (n : Int) - 1 - (k : Nat)))) = a2 at hinv2
  obtain ⟨⟨hs, hd, hy, hp, hz⟩, h8⟩ := hinv2
  show Code.wpIn Fence.wide 0 P _ _ a2 w1
  by_cases hlt : k < n
  case neg =>
    have hkn : k = n := by omega
    subst hkn
    rw [decide_eq_false (by omega)] at h8
    refine wpIn_cond_false (by rw [ev_t, h8]) (wpIn_exit ?_)
    refine ⟨hd, .tuple #[], ?_, ⟨_, rfl⟩, .inl ?_⟩
    · simp [results, hres, go_sem]
    · simpa using hJ
  rw [decide_eq_true (by omega)] at h8
  refine wpIn_cond_true (by rw [ev_t, h8]) (wpIn_skip ?_)
  show Code.wpIn Fence.wide 0 P _ _ a2 w1
  obtain ⟨b', off', us, had, hb', hul', hm', hr'⟩ := hmem (by omega)
  obtain ⟨i, hi⟩ : ∃ i : Nat, i = n - 1 - k := ⟨_, rfl⟩
  have hiz : ((n : Int) - 1 - (k : Nat)) = (i : Int) := by omega
  rw [hiz] at hz
  have hle : i * iE.size + iE.size ≤ xs.length := by rw [hx, ← Nat.succ_mul]; exact Nat.mul_le_mul_right _ (by omega)
  obtain ⟨ve, hve, hvx⟩ := run_elem (hT tE iE hE) hE1 (w := w1) (o := g.o) (g := g) rfl hul' (fun j u hj => (World.cell?_of_block (him b' hb')).trans (hm' j u hj)) (fun j u x a b => (hr' j u x a b).mono fun b hb => ⟨hb, him b hb⟩) (k := i) hle h0
  refine wpIn_seq (wpIn_block (wpIn_seq (wpIn_L ?_)))
  refine wpL_val (fun _ => trivial) rfl (by simp) (v := Y) (w' := w1) (by simp only [execOp, ev_t, hy]; rfl) ?_
  refine wpL_val (fun _ => trivial) rfl (by simp) (v := .int .i64 (i : Int)) (w' := w1) (by simp only [execOp, ev_t]; rw [put_get _ _ _ _ (by omega)]; simp only [Nat.reduceEqDiff, if_false, hz]; rfl) ?_
  refine wpL_val (fun _ => trivial) rfl (by simp) (v := .slice ad n cap) (w' := w1) (by simp only [execOp, ev_t]; have e : ((a2.put (some 11) Y).put (some 12) (.int .i64 (i : Int))).tmps.getD 1 undef = u := (by simp only [put_get, put_size, Nat.reduceLT, Nat.reduceEqDiff, ↓reduceIte, hs, hp]); rw [e]; exact run_v (hload w1 him)) ?_
  refine wpL_val (fun _ => trivial) rfl (by simp) (v := .int .i64 (i : Int)) (w' := w1) (by simp only [execOp, ev_t]; have e : (((a2.put (some 11) Y).put (some 12) (.int .i64 (i : Int))).put (some 13) (.slice ad n cap)).tmps.getD 3 undef = .int .i64 (i : Int) := (by simp only [put_get, put_size, Nat.reduceLT, Nat.reduceEqDiff, ↓reduceIte, hs, hz]); rw [e]; rfl) ?_
  obtain ⟨a3, ha3⟩ : ∃ a3 : Act, a3 = (((a2.put (some 11) Y).put (some 12) (.int .i64 (i : Int))).put (some 13) (.slice ad n cap)).put (some 14) (.int .i64 (i : Int)) := ⟨_, rfl⟩
  rw [← ha3]
  have q : Bk Y u a3 (i : Int) ∧ a3.tmps.getD 11 undef = Y ∧ a3.tmps.getD 12 undef = .int .i64 (i : Int) ∧ a3.tmps.getD 13 undef = .slice ad n cap ∧ a3.tmps.getD 14 undef = .int .i64 (i : Int) := by
    rw [ha3]
    exact ⟨⟨by simp [put_size, hs], by simp [put_df, hd], by simp only [put_get, put_size, Nat.reduceLT, Nat.reduceEqDiff, ↓reduceIte, hs, hy], by simp only [put_get, put_size, Nat.reduceLT, Nat.reduceEqDiff, ↓reduceIte, hs, hp], by simp only [put_get, put_size, Nat.reduceLT, Nat.reduceEqDiff, ↓reduceIte, hs, hz]⟩, by simp only [put_get, put_size, Nat.reduceLT, Nat.reduceEqDiff, ↓reduceIte, hs], by simp only [put_get, put_size, Nat.reduceLT, Nat.reduceEqDiff, ↓reduceIte, hs], by simp only [put_get, put_size, Nat.reduceLT, Nat.reduceEqDiff, ↓reduceIte, hs], by simp only [put_get, put_size, Nat.reduceLT, Nat.reduceEqDiff, ↓reduceIte, hs]⟩
  clear ha3 hs hd hy hp hz h8
  obtain ⟨⟨hs, hd, hy, hp, hz⟩, h11, h12, h13, h14⟩ := q
  refine wpL_val (fun _ => trivial) rfl (by simp) (v := .pointer (some ⟨b', off' + i * iE.size, none⟩)) (w' := w1) (by
    simp only [execOp, ev_t, h13, h14, had]
    have := run_indexAt_slice (P := P) (t := tS) (k := .i64) (n := (i : Int)) (b := b') (off := off') (len := n) (cap := cap) (w := w1) (hSi.slice rfl) (hT tE iE hE) (by omega) (by omega)
    rw [Int.toNat_natCast] at this
    exact run_v this) ?_
  refine wpL_val (fun _ => trivial) rfl (by simp) (v := ve) (w' := w1) (by
    simp only [execOp, ev_t]
    rw [put_get _ _ _ _ (by omega), if_pos rfl]
    exact run_v hve) ?_
  have hgetk : ((List.range n).map fun j => [i64 ((n : Int) - 1 - (j : Nat)), elemX iE.k.agg iE.size xs (n - 1 - j)])[k]? = some [i64 (i : Int), elemX iE.k.agg iE.size xs i] := by
    rw [List.getElem?_map, List.getElem?_range hlt, Option.map_some, hiz, ← hi]
  obtain ⟨f', tm', x', y', hyl, hrnd⟩ := hY k _ w1 hgetk hJ hsz him [.int .i64 (i : Int), ve] (.cons (.raw _ rfl) (.cons hvx .nil))
  refine wpL_rnd (fun _ => trivial) rfl rfl (by simp) (l := l) (f := f') (tmps := tm') (x := x') (y := y') (by
    simp only [execOp, ev_t]
    have e11 : ((a3.put (some 15) (.pointer (some ⟨b', off' + i * iE.size, none⟩))).put (some 16) ve).tmps.getD 11 undef = Y := by simp only [put_get, put_size, Nat.reduceLT, Nat.reduceEqDiff, ↓reduceIte, hs, h11]
    have e12 : ((a3.put (some 15) (.pointer (some ⟨b', off' + i * iE.size, none⟩))).put (some 16) ve).tmps.getD 12 undef = .int .i64 (i : Int) := by simp only [put_get, put_size, Nat.reduceLT, Nat.reduceEqDiff, ↓reduceIte, hs, h12]
    have e16 : ((a3.put (some 15) (.pointer (some ⟨b', off' + i * iE.size, none⟩))).put (some 16) ve).tmps.getD 16 undef = ve := by simp only [put_get, put_size, Nat.reduceLT, Nat.reduceEqDiff, ↓reduceIte, hs]
    have hyl' : (Instr.yield l #[.int .i64 (i : Int), ve]).run P w1 = .ok (.round l f' tm' x' y') w1 := hyl
    generalize (a3.put (some 15) (.pointer (some ⟨b', off' + i * iE.size, none⟩))).put (some 16) ve = A at e11 e12 e16 ⊢
    rw [← e12, ← e16] at hyl'
    simp only [resolve, ev_t, e11, hYd]
    simp only [Array.getD_eq_getD_getElem?] at hyl'
    simp [Deferred.ofValue, invoke, ev_t, hyl', go_sem]) hrnd ?_
  rintro e w2 (⟨rfl, hJ2, hsz2, him2⟩ | ⟨rfl, hJx⟩)
  · refine ⟨_, rfl, ?_⟩
    refine wpL_val (fun _ => trivial) rfl (by simp) (v := .bool false) (w' := w2) (by
      simp only [execOp, ev_t]
      rw [put_get _ _ _ _ (by simp [put_size, hs]), if_pos rfl]
      rfl) (wpL_end ?_)
    obtain ⟨a4, ha4⟩ : ∃ a4 : Act, a4 = (((a3.put (some 15) (.pointer (some ⟨b', off' + i * iE.size, none⟩))).put (some 16) ve).put (some 17) (.bool true)).put (some 18) (.bool false) := ⟨_, rfl⟩
    have q : Bk Y u a4 (i : Int) ∧ a4.tmps.getD 18 undef = .bool false := by
      rw [ha4]
      exact ⟨⟨by simp [put_size, hs], by simp [put_df, hd], by simp only [put_get, put_size, Nat.reduceLT, Nat.reduceEqDiff, ↓reduceIte, hs, hy], by simp only [put_get, put_size, Nat.reduceLT, Nat.reduceEqDiff, ↓reduceIte, hs, hp], by simp only [put_get, put_size, Nat.reduceLT, Nat.reduceEqDiff, ↓reduceIte, hs, hz]⟩, by simp only [put_get, put_size, Nat.reduceLT, Nat.reduceEqDiff, ↓reduceIte, hs]⟩
    show Code.wpIn Fence.wide 0 P _ _ ((((a3.put (some 15) (.pointer (some ⟨b', off' + i * iE.size, none⟩))).put (some 16) ve).put (some 17) (.bool true)).put (some 18) (.bool false)) w2
    rw [← ha4]
    clear ha4 hs hd hy hp hz h11 h12 h13 h14
    obtain ⟨⟨hs, hd, hy, hp, hz⟩, h18⟩ := q
    refine wpIn_cond_false (by rw [ev_t, h18]) (wpIn_skip ?_)
    show Code.wpIn Fence.wide 0 P _ _ a4 w2
    refine wpIn_L ?_
    refine wpL_val (fun _ => trivial) rfl (by simp) (v := .int .i64 (i : Int)) (w' := w2) (by simp only [execOp, ev_t, hz]; rfl) ?_
    refine wpL_val (fun _ => trivial) rfl (by simp) (v := .int .i64 ((i : Int) - 1)) (w' := w2) (by
      simp only [execOp, ev_t]
      rw [put_get _ _ _ _ (by omega), if_pos rfl]
      exact run_v (run_sub (by omega) (by omega))) ?_
    refine wpL_val (fun _ => trivial) rfl (by simp) (v := .int .i64 ((i : Int) - 1)) (w' := w2) (by
      simp only [execOp, ev_t]
      rw [put_get _ _ _ _ (by simp [put_size, hs]), if_pos rfl]
      rfl) (wpL_end ?_)
    refine ⟨n - (k + 1), by omega, k + 1, rfl, by omega, ⟨by simp [put_size, hs], by simp [put_df, hd], by simp only [put_get, put_size, Nat.reduceLT, Nat.reduceEqDiff, ↓reduceIte, hs, hy], by simp only [put_get, put_size, Nat.reduceLT, Nat.reduceEqDiff, ↓reduceIte, hs, hp], ?_⟩, hJ2, Nat.le_trans hsz hsz2, fun b hb => (him2 b hb).trans (him b hb)⟩
    have e : ((n : Int) - 1 - ((k + 1 : Nat) : Int)) = (i : Int) - 1 := by omega
    rw [e]
    simp only [put_get, put_size, Nat.reduceLT, Nat.reduceEqDiff, ↓reduceIte, hs]
  · refine ⟨_, rfl, ?_⟩
    refine wpL_val (fun _ => trivial) rfl (by simp) (v := .bool true) (w' := w2) (by
      simp only [execOp, ev_t]
      rw [put_get _ _ _ _ (by simp [put_size, hs]), if_pos rfl]
      rfl) (wpL_end ?_)
    show Code.wpIn Fence.wide 0 P _ _ ((((a3.put (some 15) (.pointer (some ⟨b', off' + i * iE.size, none⟩))).put (some 16) ve).put (some 17) (.bool false)).put (some 18) (.bool true)) w2
    have h18 : ((((a3.put (some 15) (.pointer (some ⟨b', off' + i * iE.size, none⟩))).put (some 16) ve).put (some 17) (.bool false)).put (some 18) (.bool true)).tmps.getD 18 undef = .bool true := by simp only [put_get, put_size, Nat.reduceLT, Nat.reduceEqDiff, ↓reduceIte, hs]
    refine wpIn_cond_true (by rw [ev_t, h18]) (wpIn_ret ?_)
    refine ⟨by simp [put_df, hd], .tuple #[], ?_, ⟨_, rfl⟩, .inr hJx⟩
    simp [results, hres, go_sem]
end Go.Proofs.YtdpflafjfkooeaaGreatDoorG
namespace Go.Proofs.YtdpflafjfkooeaaGreatDoorG
open Go Go.RowKit Go.Proofs
set_option linter.unusedSimpArgs false
set_option linter.unusedVariables false
theorem DBA26 : type_of% (And.intro @rn_len (And.intro @chs_len (And.intro @chs_cnt (And.intro @List.length_map.{0,0} (And.intro @cut_rn (And.intro @take_drop_len (And.intro @List.length_append.{0} (And.intro @List.length_take.{0} (And.intro @List.length_drop.{0} (And.intro @Int.sub_zero (And.intro @List.size_toArray.{0} @List.length_nil.{0}))))))))))) := ⟨@rn_len, @chs_len, @chs_cnt, @List.length_map.{0,0}, @cut_rn, @take_drop_len, @List.length_append.{0}, @List.length_take.{0}, @List.length_drop.{0}, @Int.sub_zero, @List.size_toArray.{0}, @List.length_nil.{0}⟩
set_option maxRecDepth 10000 in
theorem backward_ok (xs : List SV) : CallOk Tryz.prog 83 [sln 3 xs] (.p (.one (.v (.clo 87 [.pt [.sl 3 xs] 0])))) [] false := by
  refine fn_ok' T_ok (noO_ok _) mixed Tryz.func83 rfl (by kernel_rfl) (lv [[1], [2]]) 4 rfl (by simp) rfl (by simp) ?_
  simp only [argsG, Nat.zero_add, Nat.reduceAdd]
  repeat' first
    | ((first
        | ((with_reducible refine vR_cons (by decide) ?_); generalize hk : KtR _ _ _ _ _ _ _ _ _ _ = k)
        | ((first
        | with_reducible refine vOps_cons' ?_) <;> generalize hk : Kt _ _ _ _ _ _ _ _ _ = k)) <;> (simp only [Tryz.f83, lv, E1, E2, E5, ET, T, mvB, bxB, sxB, rxB, fwd, fwds, inv, mOk, EB, simprocAttr, DBA26, Ch.x, Ch.inv, Ch.rx, Ch.rr, Opn.x, St.x, ← rn_app]; (try simp (disch := omega) only [wrap_in, Int.toNat_natCast, tv_rn, tv_ch0, tv_ch1, tv_ch2]); subst hk))
    | with_reducible first | refine Kt_p ?_ | refine Kt_i (by kernel_rfl) ?_ | refine Kr_f (by kernel_rfl) ?_
    | (with_reducible refine Kr_t ?_; simp only [List.length_append, List.length_cons, List.length_nil, Nat.reduceAdd, Nat.reduceSub, List.drop_succ_cons, List.drop_zero])
    | with_reducible first | refine vR_nil ?_ | refine KtR_i (by kernel_rfl) ?_ | refine KrR_i (by kernel_rfl) ?_ | refine vR_skip (by decide) ?_
    | ((with_reducible refine vB_i ?_ ?_) <;> intro _ <;> (first | (exfalso; omega) | (exact absurd trivial ‹¬True›) | (try dsimp only [])))
    | ((with_reducible refine vOps_nil' ?_); refine Kr_i (by kernel_rfl) ?_; generalize hk : plain _ _ = G; simp only [lv, E3, E2, E5, rawX, deadX, EB, simprocAttr, DBA26, Ch.x, Ch.inv, Ch.rx, Ch.rr, Opn.x, St.x, ← rn_app] at hk; subst hk)
    | with_reducible refine vSeq_i ?_
    | with_reducible first | refine vRegion_i (by kernel_rfl) ?_ | refine Kv_i ?_
    | ((with_reducible apply vStrK_i); (focus (rfl; done)))
    | ((with_reducible refine imp_i ?_); intro _)
    | with_reducible first | refine Ks_n ?_ | refine Ks_r ?_ | refine Ks_e ?_ | refine Kl_e ?_ | refine Kx_n ?_ | refine Kl_r ?_ | refine vRet_i ?_ | refine vSkip_i ?_ | refine vExit_i ?_ | refine vBlock_i ?_ | refine Ks_p ?_ | refine Kl_p ?_ | refine blk_p ?_ | exact Kb_p | refine vGoto_i ?_ | refine vLabel_i ?_ | refine Ks_g ?_ | refine Kl_g ?_ | refine blk_g ?_ | refine jmp_g ?_ | refine jmp_n ?_ | refine jmp_r ?_ | refine nog_n ?_ | refine nog_r ?_ | refine blk_n ?_ | refine blk_r ?_ | refine blk_e ?_ | refine blk_o (by decide) ?_ | refine cp_t ?_ | refine cp_f ?_
    | ((with_reducible apply vCond_x); (focus (simp only [lv, E1, E2, E5, ET, T, mvB, bxB, sxB, rxB, fwd, fwds, inv, mOk, EB, simprocAttr, DBA26, Ch.x, Ch.inv, Ch.rx, Ch.rr, Opn.x, St.x, ← rn_app]; with_reducible first | exact Eq.refl (bo true) | exact Eq.refl (bo false))))
    | ((with_reducible refine And.intro ?_ ?_); (focus (try omega)))
  refine Kf_r ?_
  simp only [Tryz.f83, E4, E3, E2, E5, rawX, deadX, ET, T, EB, simprocAttr, DBA26, Ch.x, Ch.inv, Ch.rx, Ch.rr, Opn.x, St.x, ← rn_app]
theorem sv_ch {l : List Ch} {i : Nat} (h : i < l.length) : elemX true 3 (chs l) i = (l.getD i noCh).x := by
  unfold elemX
  rw [if_pos rfl]
  have e : ∀ j, j < 3 → TV.v (svAt (chs l) (i * 3 + j)) = ((chs l).map TV.v).getD (i * 3 + j) .dead := fun j hj => by
    have : i * 3 + j < (chs l).length := by rw [chs_len]; omega
    simp [svAt, List.getD, this]
  simp only [range_3, List.map_cons, List.map_nil]
  rw [e 0 (by omega), e 1 (by omega), e 2 (by omega), Nat.add_zero, tv_ch0 h, tv_ch1 h, tv_ch2 h]
  rfl
theorem chIter (l : List Ch) (hl : l.length ≤ 100000) : IterOk Tryz.prog 87 [.pt [.sl 3 (chs l)] 0] ((List.range l.length).map fun k => [i64 ((l.length : Int) - 1 - (k : Nat)), (l.getD (l.length - 1 - k) noCh).x]) := by
  have h := backward_iter (tS := 25) (tE := 47) (tY := 161) T_ok (f := 87) Tryz.func87 (by kernel_rfl) (by kernel_rfl) (by kernel_rfl) (by kernel_rfl) rfl rfl (by intro h; exact absurd h (by decide)) (by decide) (chs l) l.length (by rw [chs_len, Nat.mul_comm]; rfl) (by omega)
  have e : ((List.range l.length).map fun j => [i64 ((l.length : Int) - 1 - (j : Nat)), elemX ti47.k.agg ti47.size (chs l) (l.length - 1 - j)]) = (List.range l.length).map fun k => [i64 ((l.length : Int) - 1 - (k : Nat)), (l.getD (l.length - 1 - k) noCh).x] :=
    List.map_congr_left fun j hj => by
      have hj := List.mem_range.1 hj
      rw [show elemX ti47.k.agg ti47.size (chs l) (l.length - 1 - j) = elemX true 3 (chs l) (l.length - 1 - j) from rfl, sv_ch (by omega)]
  rw [← e]
  exact h
end Go.Proofs.YtdpflafjfkooeaaGreatDoorG
