/- YtdpflafjfkooeaaDoorZ10: a part of the proof, joined of its texts. -/
import Derived.Test.YtdpflafjfkooeaaDoorZ9
/- G14: functions by value. -/
namespace Go.Proofs.YtdpflafjfkooeaaDoorG
open Go Go.RowKit
set_option linter.unusedVariables false
set_option linter.unusedSimpArgs false
def partOf (T : Tab) (Γ : Nm → C) : ResultVar → Option PX
  | .tmp t => match Γ (.t t) with | .t (.p x) => some x | _ => none
  | .cell a ty => match ptrTo Γ (opX Γ (.tmp a)), T ty with
    | some (xs, k, _), some ti => if k + ti.size ≤ xs.length then (if ti.k.agg then some (.agg ((List.range ti.size).map fun j => tvAt xs (k + j))) else if ti.size = 1 then some (.one (tvAt xs k)) else none) else none
    | _, _ => none
def partsOf (T : Tab) (Γ : Nm → C) : List ResultVar → Option (List PX)
  | [] => some []
  | r :: rs => match partOf T Γ r, partsOf T Γ rs with | some x, some xs => some (x :: xs) | _, _ => none
def resX (T : Tab) (Γ : Nm → C) (rs : List ResultVar) : Option X := (partsOf T Γ rs).map fun xs => match xs with | [x] => .p x | xs => .tup xs
theorem sureAddr_ptr {P : Program} {u : Value} {ad : Addr} {w : World} (h : u = .pointer (some ad)) : (asAddr u).run P w = .ok ad w := by subst h; rfl
def rvAct (tmps : Array Value) : ResultVar → Sem Value
  | .tmp t => pure (tmps.getD t undef)
  | .cell a t => do loadVar t (← asAddr (tmps.getD a undef))
theorem partOf_run {P T Γ nt a w g rv x} (hT : Tok P T) (r : Rel Γ nt a w g) (h : partOf T Γ rv = some x) : ∃ v, (rvAct a.tmps rv).run P w = .ok v w ∧ PXR w g v x := by
  cases rv with
  | tmp t =>
    simp only [partOf] at h
    split at h
    · rename_i y hy
      cases h
      exact ⟨_, rfl, r.tmp hy⟩
    · cases h
  | cell ad ty =>
    simp only [partOf] at h
    split at h
    · rename_i xs k rd ti hp ht
      have hc := ptrTo_cells (Δ := Γ) hp (fun _ _ => rfl) r (opX_rel r (.tmp ad))
      have hc' := hc
      obtain ⟨b, off, us, hv, _⟩ := hc'.out
      have hv' : a.tmps.getD ad undef = .pointer (some ⟨b, off + k, none⟩) := hv
      have hrun : ∀ v, (Instr.loadAt ty (a.eval (.tmp ad))).run P w = .ok v w → (rvAct a.tmps (.cell ad ty)).run P w = .ok v w := fun v hh => by
        simp only [rvAct]
        rw [run_bind_ok (sureAddr_ptr hv')]
        have : a.eval (.tmp ad) = .pointer (some ⟨b, off + k, none⟩) := hv
        rw [this] at hh
        simp only [Instr.loadAt, Instr.sureAddr] at hh
        rw [run_bind_ok (a := (⟨b, off + k, none⟩ : Addr)) (w' := w) rfl] at hh
        exact hh
      split at h
      · rename_i hlen
        split at h
        · rename_i ha
          cases h
          obtain ⟨v, h1, h2⟩ := hc.agg (hT ty ti ht) ha hlen
          rw [slice_eq_map _ _ _ hlen] at h2
          exact ⟨v, hrun v h1, h2⟩
        · rename_i ha
          split at h
          · rename_i h1'
            cases h
            have hk : k < xs.length := by omega
            obtain ⟨v, h1, h2⟩ := hc.one (hT ty ti ht) (by simpa using ha) (x := tvAt xs k) (by simp [tvAt, List.getD, List.getElem?_eq_getElem hk])
            exact ⟨v, hrun v h1, h2⟩
          · cases h
      · cases h
    · cases h
theorem partsOf_run {P T Γ nt a w g} (hT : Tok P T) (r : Rel Γ nt a w g) : ∀ {rs : List ResultVar} {xs}, partsOf T Γ rs = some xs → ∃ vs : List Value, (rs.mapM (rvAct a.tmps)).run P w = .ok vs w ∧ All2 (PXR w g) vs xs
  | [], xs, h => by simp [partsOf] at h; subst h; exact ⟨[], by simp [List.mapM_nil], .nil⟩
  | rv :: rs, xs, h => by
    simp only [partsOf] at h
    split at h
    · rename_i x xs' h1 h2
      cases h
      obtain ⟨v, e1, e2⟩ := partOf_run hT r h1
      obtain ⟨vs, e3, e4⟩ := partsOf_run hT r h2
      refine ⟨v :: vs, ?_, .cons e2 e4⟩
      rw [List.mapM_cons, run_bind_ok e1, run_bind_ok e3]
      rfl
    · cases h
theorem resX_run {P T Γ nt a w g x} {fn : Func} (hT : Tok P T) (r : Rel Γ nt a w g) (h : resX T Γ fn.results.toList = some x) : ∃ v, (results fn a.tmps).run P w = .ok v w ∧ XR w g v x := by
  obtain ⟨xs, hxs, hx⟩ := Option.map_eq_some_iff.1 h
  obtain ⟨vs, h1, h2⟩ := partsOf_run hT r hxs
  have hmap : (fn.results.mapM (rvAct a.tmps)).run P w = .ok vs.toArray w := by
    rw [Array.mapM_eq_mapM_toList, map_eq_pure_bind, run_bind_ok h1]
    rfl
  have e : results fn a.tmps = (do let vs ← fn.results.mapM (rvAct a.tmps); pure (if h : vs.size = 1 then vs[0] else .tuple vs)) := by
    rfl
  rw [e, run_bind_ok hmap]
  refine ⟨_, rfl, ?_⟩
  cases xs with
  | nil =>
    cases vs with
    | nil => subst hx; exact ⟨#[], by simp, .nil⟩
    | cons v vs => have := h2.1; simp at this
  | cons y ys =>
    cases vs with
    | nil => have := h2.1; simp at this
    | cons v vs =>
      cases ys with
      | nil =>
        cases vs with
        | nil => subst hx; exact (by simpa using h2.head : PXR w g _ y)
        | cons v' vs => have := h2.tail.1; simp at this
      | cons z ys =>
        cases vs with
        | nil => have := h2.tail.1; simp at this
        | cons v' vs => subst hx; exact ⟨(v :: v' :: vs).toArray, by simp, by simpa using h2⟩
/-! ### results in their plain form -/
def dedup (m : List (Nat × Nat)) (h : Nat) : List (Nat × Nat) := if m.any (fun p => p.1 == h) then m else m ++ [(h, m.length)]
def resM (x : X) : List (Nat × Nat) := x.homes.foldl dedup []
def rowAt (Γ : Nm → C) (h : Nat) : Option (Nat × Nat × List SV) := match Γ (.row h) with | .row ty e xs => some (ty, e, xs) | _ => none
def rowsAt (Γ : Nm → C) : List (Nat × Nat) → Option Rows
  | [] => some []
  | (h, _) :: r => match rowAt Γ h, rowsAt Γ r with | some x, some xs => some (x :: xs) | _, _ => none
def numbered : Nat → List (Nat × Nat) → Bool
  | _, [] => true
  | k, (_, j) :: r => decide (j = k) && numbered (k + 1) r
def vRes (T : Tab) (rs : List ResultVar) (G : List (Nm × C)) (K : X → Rows → Prop) : Prop :=
  match resX T (look G) rs with
  | some x => mOk (resM x) = true ∧ numbered 0 (resM x) = true ∧ match rowsAt (look G) (resM x) with
    | some rows => K (renX (resM x) x) rows
    | none => False
  | none => False
theorem rowsAt_get {Γ : Nm → C} : ∀ {m : List (Nat × Nat)} {k0 : Nat} {rows : Rows}, rowsAt Γ m = some rows → numbered k0 m = true → ∀ k ty e xs, rows[k]? = some (ty, e, xs) → ∃ h, (h, k0 + k) ∈ m ∧ Γ (.row h) = .row ty e xs
  | [], k0, rows, h, _, k, ty, e, xs, hk => by simp [rowsAt] at h; subst h; simp at hk
  | (h0, j) :: m, k0, rows, h, hn, k, ty, e, xs, hk => by
    simp only [rowsAt] at h
    simp only [numbered, Bool.and_eq_true, decide_eq_true_eq] at hn
    split at h
    · rename_i x xs' h1 h2
      cases h
      cases k with
      | zero =>
        simp at hk
        subst hk
        unfold rowAt at h1
        split at h1
        · rename_i hr; cases h1; exact ⟨h0, by simp [hn.1], hr⟩
        · cases h1
      | succ k =>
        obtain ⟨h', hm, hr⟩ := rowsAt_get h2 hn.2 k ty e xs (by simpa using hk)
        exact ⟨h', by rw [show k0 + (k + 1) = k0 + 1 + k by omega]; exact List.mem_cons_of_mem _ hm, hr⟩
    · cases h
def argsG : Nat → List X → List (Nm × C)
  | _, [] => []
  | i, x :: r => (.t i, .t x) :: argsG (i + 1) r
theorem look_argsG {w : World} {g : Gh} : ∀ {args : List X} {vs : List Value} {k i : Nat}, All2 (XR w g) vs args → ∀ x, look (argsG k args) (.t i) = .t x → ∃ v, vs[i - k]? = some v ∧ k ≤ i ∧ XR w g v x
  | [], vs, k, i, ha, x, h => by simp [argsG, look] at h
  | y :: args, vs, k, i, ha, x, h => by
    cases vs with
    | nil => have := ha.1; simp at this
    | cons v vs =>
      simp only [argsG, look] at h
      split at h
      · rename_i e
        cases e
        cases h
        exact ⟨v, by simp, Nat.le_refl _, ha.head⟩
      · obtain ⟨v', h1, h2, h3⟩ := look_argsG (k := k + 1) ha.tail x h
        refine ⟨v', ?_, by omega, h3⟩
        rw [show i - k = (i - (k + 1)) + 1 by omega]
        simpa using h1
theorem look_argsG_other : ∀ {args : List X} {k : Nat} {n : Nm}, (∀ i, n ≠ .t i) → look (argsG k args) n = .none
  | [], k, n, h => rfl
  | y :: args, k, n, h => by simp only [argsG, look]; rw [if_neg (h k)]; exact look_argsG_other h
theorem look_argsG_t : ∀ {args : List X} {k i : Nat}, look (argsG k args) (.t i) = .none ∨ ∃ x, look (argsG k args) (.t i) = .t x
  | [], k, i => .inl rfl
  | y :: args, k, i => by
    simp only [argsG, look]
    split
    · exact .inr ⟨y, rfl⟩
    · exact look_argsG_t
def callableB (fn : Func) : Bool := !(fn.name == "runtime.NumGoroutine") && fn.body.isSome
theorem callable_of {P : Program} {f : Nat} {fn : Func} (hf : P.funcs[f]? = some fn) (hb : callableB fn = true) : ∀ vs w, (callFunc f vs).run P w = .ok (.enter f vs) w := fun vs w => by
  simp only [callableB, Bool.and_eq_true, Bool.not_eq_true'] at hb
  have h2 : fn.body.isNone = false := by cases hh : fn.body <;> simp_all
  unfold callFunc
  show ((Sem.program Sem.pure : Sem Program) >>= _).run P w = _
  rw [run_bind_ok (a := P) (w' := w) rfl]
  simp only [hf]
  rw [hb.1, h2]
  rfl
theorem leaves_marks {P : Program} {fn : Func} {nt : Nat} {R : Ending → World → Prop} {Γ : Nm → C} {a : Act} {w0 : World} {g0 : Gh} : ∀ (ds : List Deferred) {w : World} {g : Gh}, Rel Γ nt a w g → Fr w0 w g0.o g.o → Env w0.heap.size none ds w g →
    (∀ w g, Rel Γ nt a w g → Fr w0 w g0.o g.o → LeavesIn Fence.wide 0 P fn a.tmps R [] .returning w) → LeavesInM Fence.wide 0 P fn a.tmps R ds .returning w
  | [], w, g, r, f, e, h => h w g r f
  | d :: ds, w, g, r, f, e, h => by
    obtain ⟨D, rfl, h1, h2, h3, h4⟩ := e.hd d (by simp)
    refine ⟨by simp, .inl ⟨D, _, rfl, run_takeDeferred h4, leaves_marks ds (r.putO h3 _) (f.putO h1 _) ?_ h⟩⟩
    refine ⟨by simpa using e.hn, fun l hl => (by cases hl), fun d' hd' => ?_, (List.nodup_cons.1 e.nd).2⟩
    obtain ⟨D', rfl, q1, q2, q3, q4⟩ := e.hd d' (by simp [hd'])
    have hne : D' ≠ D := fun h => (List.nodup_cons.1 e.nd).1 (by rw [h] at hd'; exact hd')
    exact ⟨D', rfl, q1, by simpa using q2, q3, (World.putObj_heap_other hne).trans q4⟩
theorem fn_calls {P : Program} {T : Tab} {O : Orc} (hT : Tok P T) (hO : OrcOk P O) (hm : P.follows .mixedOrders = true) {f : Nat} {fn : Func} {c : Code} (hf : P.funcs[f]? = some fn) (hb : fn.body = some c) (vars : Nat → List Nat)
    {args : List X} {res : X} {rows : Rows} (hn : args.length ≤ fn.ntmps)
    (h : vCode T O fn.ntmps vars c (argsG 0 args) fun e G => (e = .normal ∨ e = .ret) ∧ vRes T fn.results.toList G fun res' rows' => res' = res ∧ rows' = rows) : ∀ (w : World) (vs : List Value) (g : Gh), (∀ b, g.o b = .other ∨ g.o b = .imm) → (∀ b, g.o b ≠ .other → b < w.heap.size) → GR w g.o → All2 (XR w g) vs args →
    Calls P f vs.toArray w fun e w' => ∃ v g', e = .returned v ∧ Fr w w' g.o g'.o ∧ (∀ b, g'.o b ≠ .other → b < w'.heap.size) ∧ XR w' g' v res ∧ ∀ k ty e xs, rows[k]? = some (ty, e, xs) → RowR w' g' k ty e xs := by
  intro w vs g hg hlt hgr hall
  refine callsIn_wide.1 (callsIn_of_wp_marks (F := Fence.wide) (n := 0) hf hb trivial ?_)
  have hvl : vs.length = args.length := hall.1
  have r0 : Rel (look (argsG 0 args)) fn.ntmps { tmps := vs.toArray ++ Array.replicate (fn.ntmps - vs.toArray.size) undef, defers := [] } w g := by
    refine ⟨by simp; omega, rfl, hlt, hgr, fun n => ?_⟩
    cases n with
    | t i =>
      rcases look_argsG_t (args := args) (k := 0) (i := i) with h1 | ⟨x, h1⟩
      · rw [h1]; trivial
      · rw [h1]
        obtain ⟨v, e1, _, e3⟩ := look_argsG hall x h1
        have hi : i < vs.length := (List.getElem?_eq_some_iff.1 e1).1
        have : (vs.toArray ++ Array.replicate (fn.ntmps - vs.toArray.size) undef).getD i undef = v := by
          simp only [Nat.sub_zero] at e1
          simp [Array.getD_eq_getD_getElem?, Array.getElem?_append, hi]
          rw [List.getElem?_eq_getElem hi] at e1
          exact Option.some.inj e1
        show XR w g _ x
        rw [this]
        exact e3
    | row k => rw [look_argsG_other (by simp)]; trivial
    | box k => rw [look_argsG_other (by simp)]; trivial
  have env0 : Env w.heap.size none [] w g := ⟨Nat.le_refl _, fun l hl => by (cases hl), fun d hd => absurd hd (by simp), List.nodup_nil⟩
  refine vCode_ok hT hO hm c h (ro := none) (ds := []) r0 (Fr.refl _ _) env0 fun e G' a' w' g' ds' hq r' f' env' _ => ?_
  obtain ⟨he, hv⟩ := hq
  have key := leaves_marks (P := P) (fn := fn) (R := fun e w' => ∃ v g', e = .returned v ∧ Fr w w' g.o g'.o ∧ (∀ b, g'.o b ≠ .other → b < w'.heap.size) ∧ XR w' g' v res ∧ ∀ k ty e xs, rows[k]? = some (ty, e, xs) → RowR w' g' k ty e xs) ds' r' f' env' fun w' g' r' f' => by
    unfold vRes at hv
    split at hv
    · rename_i x hx
      obtain ⟨hm1, hm2, hv⟩ := hv
      split at hv
      · rename_i rows' hrows
        obtain ⟨rfl, rfl⟩ := hv
        obtain ⟨v, h1, h2⟩ := resX_run hT r' hx
        refine ⟨v, h1, v, g'.ren (resM x), rfl, f'.trans (Fr.ren _ _ _), (r'.ren hm1).tags, ren_xr hm1 h2, fun k ty e xs hk => ?_⟩
        obtain ⟨hh, hmem, hrow⟩ := rowsAt_get hrows hm2 k ty e xs hk
        rw [Nat.zero_add] at hmem
        exact ren_rowr hm1 (fwd_mem hm1 hmem) (r'.row hrow)
      · exact hv.elim
    · exact hv.elim
  rcases he with rfl | rfl
  · exact key
  · exact key
theorem fn_callsM {P : Program} {T : Tab} {O : Orc} (hT : Tok P T) (hO : OrcOk P O) (hm : P.follows .mixedOrders = true) {f : Nat} {fn : Func} {c : Code} (hf : P.funcs[f]? = some fn) (hb : fn.body = some c) (vars : Nat → List Nat)
    {row : Nat × Nat × List SV} {args : List X} {res : X} {rows : Rows} (hn : args.length + 1 ≤ fn.ntmps)
    (h : vCode T O fn.ntmps vars c ((.row 0, .row row.1 row.2.1 row.2.2) :: argsG 0 (.p (.one (.sr 0)) :: args)) fun e G => (e = .normal ∨ e = .ret) ∧ vRes T fn.results.toList G fun res' rows' => res' = res ∧ rows' = rows) : ∀ (w : World) (vs : List Value) (g : Gh), (∀ b, g.o b ≠ .other → b < w.heap.size) → GR w g.o → All2 (XR w g) vs (.p (.one (.sr 0)) :: args) → RowR w g 0 row.1 row.2.1 row.2.2 →
    Calls P f vs.toArray w fun e w' => ∃ v g', e = .returned v ∧ Fr w w' g.o g'.o ∧ (∀ b, g'.o b ≠ .other → b < w'.heap.size) ∧ XR w' g' v res ∧ ∀ k ty e xs, rows[k]? = some (ty, e, xs) → RowR w' g' k ty e xs := by
  intro w vs g hlt hgr hall hrow0
  refine callsIn_wide.1 (callsIn_of_wp_marks (F := Fence.wide) (n := 0) hf hb trivial ?_)
  have hvl : vs.length = args.length + 1 := hall.1
  have r00 : Rel (look (argsG 0 (.p (.one (.sr 0)) :: args))) fn.ntmps { tmps := vs.toArray ++ Array.replicate (fn.ntmps - vs.toArray.size) undef, defers := [] } w g := by
    refine ⟨by simp; omega, rfl, hlt, hgr, fun n => ?_⟩
    cases n with
    | t i =>
      rcases look_argsG_t (args := .p (.one (.sr 0)) :: args) (k := 0) (i := i) with h1 | ⟨x, h1⟩
      · rw [h1]; trivial
      · rw [h1]
        obtain ⟨v, e1, _, e3⟩ := look_argsG hall x h1
        have hi : i < vs.length := (List.getElem?_eq_some_iff.1 e1).1
        have : (vs.toArray ++ Array.replicate (fn.ntmps - vs.toArray.size) undef).getD i undef = v := by
          simp only [Nat.sub_zero] at e1
          simp [Array.getD_eq_getD_getElem?, Array.getElem?_append, hi]
          rw [List.getElem?_eq_getElem hi] at e1
          exact Option.some.inj e1
        show XR w g _ x
        rw [this]
        exact e3
    | row k => rw [look_argsG_other (by simp)]; trivial
    | box k => rw [look_argsG_other (by simp)]; trivial
  have r0 : Rel (look ((.row 0, .row row.1 row.2.1 row.2.2) :: argsG 0 (.p (.one (.sr 0)) :: args))) fn.ntmps { tmps := vs.toArray ++ Array.replicate (fn.ntmps - vs.toArray.size) undef, defers := [] } w g := r00.upd (n := .row 0) hrow0
  have env0 : Env w.heap.size none [] w g := ⟨Nat.le_refl _, fun l hl => by (cases hl), fun d hd => absurd hd (by simp), List.nodup_nil⟩
  refine vCode_ok hT hO hm c h (ro := none) (ds := []) r0 (Fr.refl _ _) env0 fun e G' a' w' g' ds' hq r' f' env' _ => ?_
  obtain ⟨he, hv⟩ := hq
  have key := leaves_marks (P := P) (fn := fn) (R := fun e w' => ∃ v g', e = .returned v ∧ Fr w w' g.o g'.o ∧ (∀ b, g'.o b ≠ .other → b < w'.heap.size) ∧ XR w' g' v res ∧ ∀ k ty e xs, rows[k]? = some (ty, e, xs) → RowR w' g' k ty e xs) ds' r' f' env' fun w' g' r' f' => by
    unfold vRes at hv
    split at hv
    · rename_i x hx
      obtain ⟨hm1, hm2, hv⟩ := hv
      split at hv
      · rename_i rows' hrows
        obtain ⟨rfl, rfl⟩ := hv
        obtain ⟨v, h1, h2⟩ := resX_run hT r' hx
        refine ⟨v, h1, v, g'.ren (resM x), rfl, f'.trans (Fr.ren _ _ _), (r'.ren hm1).tags, ren_xr hm1 h2, fun k ty e xs hk => ?_⟩
        obtain ⟨hh, hmem, hrow⟩ := rowsAt_get hrows hm2 k ty e xs hk
        rw [Nat.zero_add] at hmem
        exact ren_rowr hm1 (fwd_mem hm1 hmem) (r'.row hrow)
      · exact hv.elim
    · exact hv.elim
  rcases he with rfl | rfl
  · exact key
  · exact key
theorem fn_okM {P : Program} {T : Tab} {O : Orc} (hT : Tok P T) (hO : OrcOk P O) (hm : P.follows .mixedOrders = true) {f : Nat} {fn : Func} {c : Code} (hf : P.funcs[f]? = some fn) (hb : fn.body = some c) (hcb : callableB fn = true) (vars : Nat → List Nat)
    {row : Nat × Nat × List SV} {args : List X} {res : X} {rows : Rows} (hn : args.length + 1 ≤ fn.ntmps) (hres : res.all TV.res = true)
    (h : vCode T O fn.ntmps vars c ((.row 0, .row row.1 row.2.1 row.2.2) :: argsG 0 (.p (.one (.sr 0)) :: args)) fun e G => (e = .normal ∨ e = .ret) ∧ vRes T fn.results.toList G fun res' rows' => res' = res ∧ rows' = rows) : CallM P f row args res rows :=
  ⟨callable_of hf hcb, hres, fun w vs g _ hlt hgr hall hrow => fn_callsM hT hO hm hf hb vars hn h w vs g hlt hgr hall hrow⟩
theorem fn_ok {P : Program} {T : Tab} {O : Orc} (hT : Tok P T) (hO : OrcOk P O) (hm : P.follows .mixedOrders = true) {f : Nat} {fn : Func} {c : Code} (hf : P.funcs[f]? = some fn) (hb : fn.body = some c) (hcb : callableB fn = true) (vars : Nat → List Nat)
    {args : List X} {res : X} {rows : Rows} {fr : Bool} (hn : args.length ≤ fn.ntmps) (hres : res.all TV.res = true) (hfr : fr = true → res.all TV.rawR = true ∧ ∀ r ∈ rows, ∀ x ∈ r.2.2, x.isRaw = true)
    (h : vCode T O fn.ntmps vars c (argsG 0 args) fun e G => (e = .normal ∨ e = .ret) ∧ vRes T fn.results.toList G fun res' rows' => res' = res ∧ rows' = rows) : CallOk P f args res rows fr :=
  ⟨callable_of hf hcb, hres, hfr, fn_calls hT hO hm hf hb vars hn h⟩
/-- A function that asks whether its first argument is nil. -/
theorem fn_nil {P : Program} {T : Tab} {O : Orc} (hT : Tok P T) (hO : OrcOk P O) (hm : P.follows .mixedOrders = true) {f : Nat} {fn : Func} {c : Code} (hf : P.funcs[f]? = some fn) (hb : fn.body = some c) (hcb : callableB fn = true) (vars : Nat → List Nat) (ty : Nat)
    {e0 : Nat} {xs : List SV} {args : List X} {res : X} {rows : Rows} {fr : Bool} (hn : args.length + 1 ≤ fn.ntmps) (hres : res.all TV.res = true) (hfr : fr = true → res.all TV.rawR = true ∧ ∀ r ∈ rows, ∀ x ∈ r.2.2, x.isRaw = true)
    (h1 : xs = [] → vCode T O fn.ntmps vars c (argsG 0 (.p (.one (.nl ty 0)) :: args)) fun e G => (e = .normal ∨ e = .ret) ∧ vRes T fn.results.toList G fun res' rows' => res' = res ∧ rows' = rows)
    (h2 : vCode T O fn.ntmps vars c (argsG 0 (.p (.one (.nn e0 xs)) :: args)) fun e G => (e = .normal ∨ e = .ret) ∧ vRes T fn.results.toList G fun res' rows' => res' = res ∧ rows' = rows) :
    CallOk P f (.p (.one (.v (.sl e0 xs))) :: args) res rows fr := by
  refine ⟨callable_of hf hcb, hres, hfr, fun w vs g hg hlt hgr hall => ?_⟩
  cases vs with
  | nil => have := hall.1; simp at this
  | cons v vs =>
    have hv : SVR w g.o v (.sl e0 xs) := hall.head
    by_cases hnil : ∃ n c, v = .slice none n c
    · obtain ⟨n, c', rfl⟩ := hnil
      have hc := SVR.noneCap hv rfl
      have hx : xs = [] ∧ n = 0 := by
        cases hv with
        | nil => exact ⟨rfl, rfl⟩
      obtain ⟨hx1, rfl⟩ := hx
      subst hc
      exact fn_calls hT hO hm hf hb vars (by simpa using hn) (h1 hx1) w _ g hg hlt hgr (All2.cons rfl hall.tail)
    · exact fn_calls hT hO hm hf hb vars (by simpa using hn) h2 w _ g hg hlt hgr (All2.cons ⟨hv, fun n c' e => hnil ⟨n, c', e⟩⟩ hall.tail)
/-! ### a function with a label ahead of its end -/
def GEx.jmp (l : Nat) (J : List (Nm × C) → Prop) (Q : GEx → List (Nm × C) → Prop) : GEx → List (Nm × C) → Prop
  | .goto l', G => l' = l ∧ J G
  | e, G => Q e G
def GEx.nog (Q : GEx → List (Nm × C) → Prop) : GEx → List (Nm × C) → Prop
  | .goto _, _ => False
  | e, G => Q e G
theorem scope_wp {P : Program} {T : Tab} {O : Orc} {nt : Nat} {vars : Nat → List Nat} (hT : Tok P T) (hO : OrcOk P O) (hm : P.follows .mixedOrders = true) {c rest : Code} {l : Nat} {G : List (Nm × C)} {Qg : GEx → List (Nm × C) → Prop} (hl : findLabel c l = some rest)
    (h : vCode T O nt vars c G (GEx.jmp l (fun G' => vCode T O nt vars rest G' (GEx.nog Qg)) Qg)) {n0 : Nat} {ds : List Deferred} {a : Act} {w w0 : World} {g g0 : Gh} {Q : Exit → Act → World → Prop} (r : Rel (look G) nt a w g) (hf : Fr w0 w g0.o g.o) (he : Env n0 none ds w g)
    (hQ : ∀ e G' a' w' g' ds', (∀ l, e ≠ .goto l) → Qg e G' → Rel (look G') nt a' w' g' → Fr w0 w' g0.o g'.o → Env n0 none ds' w' g' → Q e.ex (shA ds' a') w') : (Code.scope c).wpIn Fence.wide 0 P Q (shA ds a) w := by
  refine wpIn_wide.2 (wp_scope_jumps l (fun a w => ∃ a2 ds2 G g, a = shA ds2 a2 ∧ vCode T O nt vars rest G (GEx.nog Qg) ∧ Rel (look G) nt a2 w g ∧ Fr w0 w g0.o g.o ∧ Env n0 none ds2 w g) (fun _ _ => 0) hl ?_ ?_)
  · refine (wpIn_wide (n := 0)).1 (vCode_ok hT hO hm c h (ro := none) r hf he fun e G' a' w' g' ds' hq r' f' e' _ => ?_)
    cases e with
    | goto l' => exact ⟨hq.1, a', ds', G', g', rfl, hq.2, r', f', e'⟩
    | normal => exact hQ .normal G' a' w' g' ds' (by simp) hq r' f' e'
    | exit id => exact hQ (.exit id) G' a' w' g' ds' (by simp) hq r' f' e'
    | ret => exact hQ .ret G' a' w' g' ds' (by simp) hq r' f' e'
    | panic v => exact hQ (.panic v) G' a' w' g' ds' (by simp) hq r' f' e'
  · rintro _ w1 ⟨a1, ds1, G1, g1, rfl, hv, r1, f1, e1⟩
    refine (wpIn_wide (n := 0)).1 (vCode_ok hT hO hm rest hv (ro := none) r1 f1 e1 fun e G' a' w' g' ds' hq r' f' e' _ => ?_)
    cases e with
    | goto l' => exact hq.elim
    | normal => exact hQ .normal G' a' w' g' ds' (by simp) hq r' f' e'
    | exit id => exact hQ (.exit id) G' a' w' g' ds' (by simp) hq r' f' e'
    | ret => exact hQ .ret G' a' w' g' ds' (by simp) hq r' f' e'
    | panic v => exact hQ (.panic v) G' a' w' g' ds' (by simp) hq r' f' e'
def lentL (n : Nat) (bs : Boxes) : List (Nm × C) := match bs with
  | [] => []
  | (ty, xs) :: r => (.box n, .box ty xs) :: lentL (n + 1) r
theorem look_lentL : ∀ {bs : Boxes} {n : Nat} {G : List (Nm × C)} {k : Nat} {ty xs}, look (lentL n bs ++ G) (.box k) = .box ty xs → look G (.box k) = .none → n ≤ k ∧ bs[k - n]? = some (ty, xs)
  | [], n, G, k, ty, xs, h, h0 => by simp [lentL] at h; rw [h0] at h; cases h
  | (ty', xs') :: r, n, G, k, ty, xs, h, h0 => by
    simp only [lentL, List.cons_append, look] at h
    by_cases e : (Nm.box k) = Nm.box n
    · rw [if_pos e] at h; cases e; cases h; simp
    · rw [if_neg e] at h
      obtain ⟨h1, h2⟩ := look_lentL h h0
      refine ⟨by omega, ?_⟩
      obtain ⟨j, hj⟩ : ∃ j, k - n = j + 1 := ⟨k - n - 1, by omega⟩
      rw [hj, List.getElem?_cons_succ, ← h2]; congr 1; omega
theorem look_lentL_box : ∀ {bs : Boxes} {n : Nat} {G : List (Nm × C)} {k : Nat}, look (lentL n bs ++ G) (.box k) = look G (.box k) ∨ ∃ ty xs, look (lentL n bs ++ G) (.box k) = .box ty xs
  | [], n, G, k => .inl rfl
  | (ty', xs') :: r, n, G, k => by
    simp only [lentL, List.cons_append, look]
    by_cases e : (Nm.box k) = Nm.box n
    · rw [if_pos e]; exact .inr ⟨_, _, rfl⟩
    · rw [if_neg e]; exact look_lentL_box
theorem look_lentL_o : ∀ {bs : Boxes} {n : Nat} {G : List (Nm × C)} {m : Nm}, (∀ k, m ≠ .box k) → look (lentL n bs ++ G) m = look G m
  | [], n, G, m, h => rfl
  | (ty', xs') :: r, n, G, m, h => by
    simp only [lentL, List.cons_append, look]
    rw [if_neg (h n)]; exact look_lentL_o h
def endC (Γ : Nm → C) : TV → Option (TV × List Nat)
  | .pr h off => some (.pr h off, [])
  | .dead => some (.dead, [])
  | x => (frzT Γ x).map fun p => (.v p.1, p.2)
def endL (Γ : Nm → C) : List TV → Option (List TV × List Nat)
  | [] => some ([], [])
  | x :: r => match endC Γ x, endL Γ r with
    | some (y, h1), some (ys, h2) => some (y :: ys, h1 ++ h2)
    | _, _ => none
def isPr (k : Nat) : C → Bool
  | .t (.p (.one (.pr h 0))) => decide (h = k)
  | _ => false
def isPrX (k : Nat) : List X → Bool
  | .p (.one (.pr h 0)) :: _ => decide (h = k)
  | _ => false
/-- The lent variables at the end: their contents, frozen; keep: is something told of it? Its pointer is the parameter of its number. -/
def endB (Γ : Nm → C) (args : List X) (W : List Nat) : Nat → List Bool → Option (Boxes × List Nat)
  | _, [] => some ([], [])
  | k, false :: r => (endB Γ args W (k + 1) r).map fun p => ((0, []) :: p.1, p.2)
  | k, true :: r => match isPrX k (args.drop k), W.contains k, isPr k (Γ (.t k)) with
    | true, false, true => match Γ (.box k) with
      | .box ty xs => match endL Γ xs, endB Γ args W (k + 1) r with
        | some (ys, h1), some (bs, h2) => some ((ty, ys) :: bs, h1 ++ h2)
        | _, _ => none
      | _ => none
    | _, _, _ => none
def endP (Γ : Nm → C) : PX → Option (PX × List Nat)
  | .one x => (frzT Γ x).map fun p => (.one (.v p.1), p.2)
  | .agg xs => (frzL Γ xs).map fun p => (.agg (p.1.map .v), p.2)
def endPs (Γ : Nm → C) : List PX → Option (List PX × List Nat)
  | [] => some ([], [])
  | x :: r => match endP Γ x, endPs Γ r with
    | some (y, h1), some (ys, h2) => some (y :: ys, h1 ++ h2)
    | _, _ => none
def endX (Γ : Nm → C) : X → Option (X × List Nat)
  | .p x => (endP Γ x).map fun p => (.p p.1, p.2)
  | .tup xs => (endPs Γ xs).map fun p => (.tup p.1, p.2)
def vEnd (T : Tab) (rs : List ResultVar) (args : List X) (W : List Nat) (keep : List Bool) (G : List (Nm × C)) (K : X → Boxes → Prop) : Prop :=
  match resX T (look G) rs with
  | some x => match endX (look G) x, endB (look G) args W 0 keep with
    | some (y, _), some (bs, _) => K y bs
    | _, _ => False
  | none => False
section
variable {Γ : Nm → C} {nt : Nat} {a : Act} {w : World} {g : Gh} {hs : List Nat}
theorem endC_rel (r : Rel Γ nt a w g) {u : Value} {x y hs0} (h : endC Γ x = some (y, hs0)) (hsub : ∀ k ∈ hs0, k ∈ hs) (hx : TVR w g u x) : TVR w (g.frz hs) u y := by
  have key : ∀ x : TV, (frzT Γ x).map (fun p => (TV.v p.1, p.2)) = some (y, hs0) → TVR w g u x → TVR w (g.frz hs) u y := fun x h hx => by
    obtain ⟨⟨s, hs1⟩, h1, h2⟩ := Option.map_eq_some_iff.1 h
    cases h2
    exact frzT_rel r h1 (fun _ _ => rfl) hsub hx
  unfold endC at h
  split at h
  · cases h; exact hx
  · cases h; trivial
  · exact key _ h hx
theorem endL_rel (r : Rel Γ nt a w g) : ∀ {us : List Value} {xs ys hs0}, endL Γ xs = some (ys, hs0) → (∀ k ∈ hs0, k ∈ hs) → All2 (TVR w g) us xs → All2 (TVR w (g.frz hs)) us ys := by
  intro us xs
  induction xs generalizing us with
  | nil =>
    intro ys hs0 h _ ha
    simp [endL] at h
    obtain ⟨rfl, rfl⟩ := h
    cases us with
    | nil => exact .nil
    | cons u us => have := ha.1; simp at this
  | cons x xs ih =>
    intro ys hs0 h hsub ha
    cases us with
    | nil => have := ha.1; simp at this
    | cons u us =>
      simp only [endL] at h
      split at h
      · rename_i y h1 ys' h2 e1 e2
        cases h
        exact .cons (endC_rel r e1 (fun k hk => hsub k (by simp [hk])) ha.head) (ih e2 (fun k hk => hsub k (by simp [hk])) ha.tail)
      · cases h
theorem endP_rel (r : Rel Γ nt a w g) {u : Value} {x y hs0} (h : endP Γ x = some (y, hs0)) (hsub : ∀ k ∈ hs0, k ∈ hs) (hx : PXR w g u x) : PXR w (g.frz hs) u y ∧ y.all TV.isV = true := by
  unfold endP at h
  split at h
  · obtain ⟨⟨s, hs1⟩, h1, h2⟩ := Option.map_eq_some_iff.1 h
    cases h2
    exact ⟨frzT_rel r h1 (fun _ _ => rfl) hsub hx, rfl⟩
  · obtain ⟨⟨s, hs1⟩, h1, h2⟩ := Option.map_eq_some_iff.1 h
    cases h2
    obtain ⟨cs, hv, hall⟩ := hx
    refine ⟨⟨cs, hv, (frzL_rel r h1 (fun _ _ => rfl) hsub hall).svTv⟩, ?_⟩
    simp only [PX.all, List.all_map, List.all_eq_true]
    intro x _; rfl
theorem endPs_rel (r : Rel Γ nt a w g) : ∀ {us : List Value} {xs ys hs0}, endPs Γ xs = some (ys, hs0) → (∀ k ∈ hs0, k ∈ hs) → All2 (PXR w g) us xs → All2 (PXR w (g.frz hs)) us ys ∧ ys.all (fun p => p.all TV.isV) = true := by
  intro us xs
  induction xs generalizing us with
  | nil =>
    intro ys hs0 h _ ha
    simp [endPs] at h
    obtain ⟨rfl, rfl⟩ := h
    cases us with
    | nil => exact ⟨.nil, rfl⟩
    | cons u us => have := ha.1; simp at this
  | cons x xs ih =>
    intro ys hs0 h hsub ha
    cases us with
    | nil => have := ha.1; simp at this
    | cons u us =>
      simp only [endPs] at h
      split at h
      · rename_i y h1 ys' h2 e1 e2
        cases h
        obtain ⟨q1, q2⟩ := endP_rel r e1 (fun k hk => hsub k (by simp [hk])) ha.head
        obtain ⟨q3, q4⟩ := ih e2 (fun k hk => hsub k (by simp [hk])) ha.tail
        exact ⟨.cons q1 q3, by simp [q2, q4]⟩
      · cases h
theorem endX_rel (r : Rel Γ nt a w g) {u : Value} {x y hs0} (h : endX Γ x = some (y, hs0)) (hsub : ∀ k ∈ hs0, k ∈ hs) (hx : XR w g u x) : XR w (g.frz hs) u y ∧ y.all TV.isV = true := by
  unfold endX at h
  split at h
  · obtain ⟨⟨s, hs1⟩, h1, h2⟩ := Option.map_eq_some_iff.1 h
    cases h2
    exact endP_rel r h1 hsub hx
  · obtain ⟨⟨s, hs1⟩, h1, h2⟩ := Option.map_eq_some_iff.1 h
    cases h2
    obtain ⟨vs, hv, hall⟩ := hx
    obtain ⟨q1, q2⟩ := endPs_rel r h1 hsub hall
    exact ⟨⟨vs, hv, q1⟩, q2⟩
theorem endB_get {args : List X} {W : List Nat} : ∀ {keep : List Bool} {n bs hs}, endB Γ args W n keep = some (bs, hs) → bs.length = keep.length ∧ ∀ (j : Nat) ty ys, bs[j]? = some (ty, ys) → ys ≠ [] →
    ∃ xs hs1, isPrX (n + j) (args.drop (n + j)) = true ∧ W.contains (n + j) = false ∧ isPr (n + j) (Γ (.t (n + j))) = true ∧ Γ (.box (n + j)) = .box ty xs ∧ endL Γ xs = some (ys, hs1) ∧ ∀ k ∈ hs1, k ∈ hs
  | [], n, bs, hs, h => by simp [endB] at h; obtain ⟨rfl, rfl⟩ := h; exact ⟨rfl, fun j ty ys hj => by simp at hj⟩
  | false :: r, n, bs, hs, h => by
    simp only [endB] at h
    obtain ⟨⟨bs', hs'⟩, h1, h2⟩ := Option.map_eq_some_iff.1 h
    cases h2
    obtain ⟨q1, q2⟩ := endB_get h1
    refine ⟨by simp [q1], fun j ty ys hj hne => ?_⟩
    cases j with
    | zero => simp at hj; exact absurd hj.2 hne
    | succ j =>
      have := q2 j ty ys (by simpa using hj) hne
      rwa [show n + 1 + j = n + (j + 1) by omega] at this
  | true :: r, n, bs, hs, h => by
    simp only [endB] at h
    split at h
    · rename_i e1 e2 e3
      split at h
      · rename_i ty0 xs hb
        split at h
        · rename_i ys0 h1 bs' h2 p1 p2
          cases h
          obtain ⟨q1, q2⟩ := endB_get p2
          refine ⟨by simp [q1], fun j ty ys hj hne => ?_⟩
          cases j with
          | zero => simp at hj; obtain ⟨rfl, rfl⟩ := hj; exact ⟨xs, h1, e1, e2, e3, hb, p1, fun k hk => by simp [hk]⟩
          | succ j =>
            obtain ⟨xs', hs1, z1, z2, z3, z4, z5, z6⟩ := q2 j ty ys (by simpa using hj) hne
            rw [show n + 1 + j = n + (j + 1) by omega] at z1 z2 z3 z4
            exact ⟨xs', hs1, z1, z2, z3, z4, z5, fun k hk => by simp [z6 k hk]⟩
        · cases h
      · cases h
    · cases h
end
/-- How a function ends that is lent own variables. -/
def Kb (T : Tab) (rs : List ResultVar) (args : List X) (W : List Nat) (out : Out) (e : GEx) (G : List (Nm × C)) : Prop :=
  match e with
  | .normal | .ret => match out with
    | .ret res bs => vEnd T rs args W (bs.map fun b => !b.2.isEmpty) G fun res' bs' => res' = res ∧ bs'.map (fun b => b.2) = bs.map (fun b => b.2) ∧ bs'.map (fun b => if b.2.isEmpty then 0 else b.1) = bs.map (fun b => if b.2.isEmpty then 0 else b.1)
    | .pan _ => False
  | .panic v => match out with
    | .pan u => v = u
    | .ret _ _ => False
  | .exit _ | .goto _ => False
theorem leaves_marksP {P : Program} {fn : Func} {nt : Nat} {tmps : Array Value} {R : Ending → World → Prop} {ch : List PanicEntry} {a : Act} {w0 : World} {g0 : Gh} : ∀ (ds : List Deferred) {w : World} {g : Gh}, Rel (look []) nt a w g → Fr w0 w g0.o g.o → Env w0.heap.size none ds w g →
    (∀ w g, Rel (look []) nt a w g → Fr w0 w g0.o g.o → R (.panicked ch) w) → LeavesInM Fence.wide 0 P fn tmps R ds (.panicking ch) w
  | [], w, g, r, f, e, h => h w g r f
  | d :: ds, w, g, r, f, e, h => by
    obtain ⟨D, rfl, h1, h2, h3, h4⟩ := e.hd d (by simp)
    refine ⟨by simp, .inl ⟨D, _, rfl, run_takeDeferred h4, leaves_marksP ds (r.putO h3 _) (f.putO h1 _) ?_ h⟩⟩
    refine ⟨by simpa using e.hn, fun l hl => (by cases hl), fun d' hd' => ?_, (List.nodup_cons.1 e.nd).2⟩
    obtain ⟨D', rfl, q1, q2, q3, q4⟩ := e.hd d' (by simp [hd'])
    have hne : D' ≠ D := fun h => (List.nodup_cons.1 e.nd).1 (by rw [h] at hd'; exact hd')
    exact ⟨D', rfl, q1, by simpa using q2, q3, (World.putObj_heap_other hne).trans q4⟩
theorem isPrX_at {k : Nat} {args : List X} (h : isPrX k (args.drop k) = true) : args[k]? = some (.p (.one (.pr k 0))) := by
  unfold isPrX at h
  split at h
  · rename_i h' r e
    simp at h; subst h
    have : args[h']? = (args.drop h')[0]? := by simp
    rw [this, e]; rfl
  · cases h
theorem isPr_at {k : Nat} {c : C} (h : isPr k c = true) : c = .t (.p (.one (.pr k 0))) := by
  unfold isPr at h
  split at h
  · simp at h; subst h; rfl
  · cases h
theorem fn_callsB {P : Program} {T : Tab} {O : Orc} (hT : Tok P T) (hO : OrcOk P O) (hm : P.follows .mixedOrders = true) {f : Nat} {fn : Func} {c : Code} (hf : P.funcs[f]? = some fn) (hb : fn.body = some c) (vars : Nat → List Nat)
    {bs0 : Boxes} {args : List X} {out : Out} (hn : args.length ≤ fn.ntmps)
    (h : vCode T O fn.ntmps vars c (lentL 0 bs0 ++ argsG 0 args) (Kb T fn.results.toList args (wrs c) out)) : ∀ (w : World) (vs : List Value) (g : Gh), (∀ b, g.o b ≠ .other → b < w.heap.size) → GR w g.o → All2 (XR w g) vs args → (∀ k ty xs, bs0[k]? = some (ty, xs) → BoxR w g k ty xs) →
    Calls P f vs.toArray w fun e w' => out.post w g e w' := by
  intro w vs g hlt hgr hall hbx
  refine callsIn_wide.1 (callsIn_of_wp_marks (F := Fence.wide) (n := 0) hf hb trivial ?_)
  have hvl : vs.length = args.length := hall.1
  have htm : ∀ i v, vs[i]? = some v → (vs.toArray ++ Array.replicate (fn.ntmps - vs.toArray.size) undef).getD i undef = v := fun i v e1 => by
    have hi : i < vs.length := (List.getElem?_eq_some_iff.1 e1).1
    simp [Array.getD_eq_getD_getElem?, Array.getElem?_append, hi]
    rw [List.getElem?_eq_getElem hi] at e1
    exact Option.some.inj e1
  have r0 : Rel (look (lentL 0 bs0 ++ argsG 0 args)) fn.ntmps { tmps := vs.toArray ++ Array.replicate (fn.ntmps - vs.toArray.size) undef, defers := [] } w g := by
    refine ⟨by simp; omega, rfl, hlt, hgr, fun n => ?_⟩
    cases n with
    | t i =>
      rw [look_lentL_o (by simp)]
      rcases look_argsG_t (args := args) (k := 0) (i := i) with h1 | ⟨x, h1⟩
      · rw [h1]; trivial
      · rw [h1]
        obtain ⟨v, e1, _, e3⟩ := look_argsG hall x h1
        show XR w g _ x
        rw [htm i v (by simpa using e1)]
        exact e3
    | row k => rw [look_lentL_o (by simp), look_argsG_other (by simp)]; trivial
    | box k =>
      have h0 : look (argsG 0 args) (.box k) = .none := look_argsG_other (by simp)
      rcases look_lentL_box (bs := bs0) (n := 0) (G := argsG 0 args) (k := k) with h1 | ⟨ty, xs, h1⟩
      · rw [h1, h0]; trivial
      · rw [h1]
        obtain ⟨_, h3⟩ := look_lentL h1 h0
        exact hbx k ty xs (by simpa using h3)
  have env0 : Env w.heap.size none [] w g := ⟨Nat.le_refl _, fun l hl => by (cases hl), fun d hd => absurd hd (by simp), List.nodup_nil⟩
  refine vCode_ok hT hO hm c h (ro := none) (ds := []) r0 (Fr.refl _ _) env0 fun e G' a' w' g' ds' hq r' f' env' hkeep => ?_
  have hend : (∃ res bs, out = .ret res bs ∧ vEnd T fn.results.toList args (wrs c) (bs.map fun b => !b.2.isEmpty) G' fun res' bs' => res' = res ∧ bs'.map (fun b => b.2) = bs.map (fun b => b.2) ∧ bs'.map (fun b => if b.2.isEmpty then 0 else b.1) = bs.map (fun b => if b.2.isEmpty then 0 else b.1)) →
      LeavesInM Fence.wide 0 P fn a'.tmps (fun e w' => out.post w g e w') ds' .returning w' := by
    rintro ⟨res, bs, rfl, hv⟩
    refine leaves_marks (P := P) (fn := fn) ds' r' f' env' fun w' g' r' f' => ?_
    unfold vEnd at hv
    split at hv
    · rename_i x hx
      split at hv
      · rename_i y h1 bs' h2 ex eb
        obtain ⟨rfl, e1, e2⟩ := hv
        obtain ⟨v, hv1, hv2⟩ := resX_run hT r' hx
        obtain ⟨x1, x2⟩ := endX_rel (hs := h1 ++ h2) r' ex (fun k hk => by simp [hk]) hv2
        refine ⟨v, hv1, v, g'.frz (h1 ++ h2), rfl, f'.trans (Fr.frz _ _ _), (r'.frz _).tags, x1, fun k ty ys hk hne => ?_⟩
        have hk' : bs'[k]? = some (ty, ys) := by
          have q1 := congrArg (·[k]?) e1
          have q2 := congrArg (·[k]?) e2
          simp only [List.getElem?_map, hk, Option.map_some] at q1 q2
          cases hb' : bs'[k]? with
          | none => simp [hb'] at q1
          | some b =>
            simp only [hb', Option.map_some, Option.some.injEq] at q1 q2
            obtain ⟨b1, b2⟩ := b
            simp only at q1 q2
            subst q1
            have hne' : b2.isEmpty = false := by cases b2 with | nil => exact absurd rfl hne | cons _ _ => rfl
            simp [hne'] at q2
            rw [q2]
        obtain ⟨xs, hs1, z1, z2, z3, z4, z5, z6⟩ := (endB_get eb).2 k ty ys hk' hne
        simp only [Nat.zero_add] at z1 z2 z3 z4
        have harg := isPrX_at z1
        have htk := isPr_at z3
        have hvk : ∃ v, vs[k]? = some v ∧ v = .pointer (some ⟨g.bk k, 0, none⟩) := by
          have hkl : k < vs.length := by rw [hvl]; exact (List.getElem?_eq_some_iff.1 harg).1
          exact ⟨vs[k], List.getElem?_eq_getElem hkl, hall.2 k _ _ (List.getElem?_eq_getElem hkl) harg⟩
        obtain ⟨v0, hv0, hv0'⟩ := hvk
        have hnow : a'.tmps.getD k undef = .pointer (some ⟨g'.bk k, 0, none⟩) := r'.tmp (i := k) htk
        have hwas := hkeep k (by simpa using z2)
        rw [hnow, show Act.tmps { tmps := vs.toArray ++ Array.replicate (fn.ntmps - vs.toArray.size) undef, defers := ([] : List Deferred) } = vs.toArray ++ Array.replicate (fn.ntmps - vs.toArray.size) undef from rfl, htm k v0 hv0, hv0'] at hwas
        have hbk : g'.bk k = g.bk k := by
          simp only [Value.pointer.injEq, Option.some.injEq, Addr.mk.injEq, and_true] at hwas
          exact hwas
        obtain ⟨cur, p1, p2, p3⟩ := r'.box (h := k) z4
        exact ⟨⟨cur, p1, by show (g'.frz _).o (g'.bk k) = _; simp [Gh.frz, p2], endL_rel r' z5 (fun j hj => by simp [z6 j hj]) p3⟩, hbk⟩
      · exact hv.elim
    · exact hv.elim
  unfold Kb at hq
  split at hq
  · cases out with
    | ret res bs => exact hend ⟨res, bs, rfl, hq⟩
    | pan v => exact hq.elim
  · cases out with
    | ret res bs => exact hend ⟨res, bs, rfl, hq⟩
    | pan v => exact hq.elim
  · rename_i v
    cases out with
    | ret res bs => exact hq.elim
    | pan u =>
      cases hq
      exact leaves_marksP (P := P) (fn := fn) ds' (a := a') (nt := fn.ntmps) ⟨r'.size, r'.df, r'.tags, r'.gl, fun n => by cases n <;> trivial⟩ f' env' fun w' g' r' f' => ⟨rfl, _, f'⟩
  · exact hq.elim
  · exact hq.elim
theorem fn_okB {P : Program} {T : Tab} {O : Orc} (hT : Tok P T) (hO : OrcOk P O) (hm : P.follows .mixedOrders = true) {f : Nat} {fn : Func} {c : Code} (hf : P.funcs[f]? = some fn) (hb : fn.body = some c) (hcb : callableB fn = true) (vars : Nat → List Nat)
    {bs0 : Boxes} {args : List X} {out : Out} (hn : args.length ≤ fn.ntmps) (hok : out.ok bs0.length)
    (h : vCode T O fn.ntmps vars c (lentL 0 bs0 ++ argsG 0 args) (Kb T fn.results.toList args (wrs c) out)) : CallB P f bs0 args out :=
  ⟨callable_of hf hcb, hok, fun w vs g _ hlt hgr hall hbx => fn_callsB hT hO hm hf hb vars hn h w vs g hlt hgr hall hbx⟩
end Go.Proofs.YtdpflafjfkooeaaDoorG
/- G15: symbolic execution: lemmas for simp. -/
namespace Go.Proofs.YtdpflafjfkooeaaDoorG
open Go Go.RowKit
set_option linter.unusedVariables false
set_option linter.unusedSimpArgs false
/-- What comes behind an operation. -/
def Kt (T : Tab) (O : Orc) (nt : Nat) (ops : List Oper) (i : Nat) (r : List Oper) (G : List (Nm × C)) (log : Acts) (K : Option Value → List (Nm × C) → Acts → Prop) (rd : List Nm) (wr : List (Nm × C)) : Prop := match panV wr with
  | some v => K (some v) G (log ++ [(rd, [])])
  | none => vOps T O nt ops i r (wr ++ G) (log ++ [(rd, wr)]) K
theorem vOps_cons' {T O nt ops i o r G log K} (h : vStep T O nt ops i o (look G) (Kt T O nt ops (i + 1) r G log K)) : vOps T O nt ops i (o :: r) G log K := h
theorem vOps_nil' {T O nt ops i G log K} (h : K none G log) : vOps T O nt ops i [] G log K := h
theorem Kt_i {T O nt ops i r G log K rd wr} (h0 : panV wr = none) (h : vOps T O nt ops i r (wr ++ G) (log ++ [(rd, wr)]) K) : Kt T O nt ops i r G log K rd wr := by unfold Kt; rw [h0]; exact h
theorem Kt_p {T O nt ops i r G log K rd v} (h : K (some v) G (log ++ [(rd, [])])) : Kt T O nt ops i r G log K rd (pan v) := h
/-- Behind a region. -/
def Kr (T : Tab) (O : Orc) (nt : Nat) (ops : List Oper) (draw : Bool) (G : List (Nm × C)) (vars : List Nat) (Q : GEx → List (Nm × C) → Prop) (pv : Option Value) (G' : List (Nm × C)) (acts : Acts) : Prop := match pv with
  | none => regOk ops draw G acts = true ∧ Q .normal (plain vars G')
  | some v => panRegion T O nt ops draw G G' acts (Q (.panic v) [])
/-- A region's operations, from a state on. -/
def Kv (T : Tab) (O : Orc) (nt : Nat) (ops : List Oper) (draw : Bool) (vars : List Nat) (Q : GEx → List (Nm × C) → Prop) (G : List (Nm × C)) : Prop := vOps T O nt ops 0 ops G [] (Kr T O nt ops draw G vars Q)
theorem Kv_i {T O nt ops draw vars Q G} (h : vOps T O nt ops 0 ops G [] (Kr T O nt ops draw G vars Q)) : Kv T O nt ops draw vars Q G := h
theorem vRegion_i {T O nt vars id} {ops : Array Oper} {draw G Q} (hs : ((vars id).all fun i => decide (i < 2000000)) = true) (h : vOps T O nt ops.toList 0 ops.toList G [] (Kr T O nt ops.toList draw G (vars id) Q)) : vCode T O nt vars (.region id ops draw) G Q := vSpl_none hs h
/-- What stands behind an operation that panics. -/
def KtR (T : Tab) (O : Orc) (nt : Nat) (ops : List Oper) (p i : Nat) (r : List Oper) (G : List (Nm × C)) (log : Acts) (K : Acts → Prop) (rd : List Nm) (wr : List (Nm × C)) : Prop := match panV wr with
  | some _ => False
  | none => vRest T O nt ops p i r (wr ++ G) (log ++ [(rd, wr)]) K
def KrR (ops : List Oper) (G0 : List (Nm × C)) (q : Prop) (acts : Acts) : Prop := regOk ops true G0 acts = true ∧ q
theorem KrR_i {ops G0 q acts} (h1 : regOk ops true G0 acts = true) (h2 : q) : KrR ops G0 q acts := ⟨h1, h2⟩
theorem vR_nil {T O nt ops p i G log K} (h : K log) : vRest T O nt ops p i [] G log K := h
theorem vR_skip {T O nt ops p i o r G log K} (hb : ((masks ops []).getD i 0).testBit p = true) (h : vRest T O nt ops p (i + 1) r G (log ++ [([], [])]) K) : vRest T O nt ops p i (o :: r) G log K := by unfold vRest; rw [hb]; exact h
theorem vR_cons {T O nt ops p i o r G log K} (hb : ((masks ops []).getD i 0).testBit p = false) (h : vStep T O nt ops i o (look G) (KtR T O nt ops p (i + 1) r G log K)) : vRest T O nt ops p i (o :: r) G log K := by unfold vRest; rw [hb]; exact h
theorem KtR_i {T O nt ops p i r G log K rd wr} (h0 : panV wr = none) (h : vRest T O nt ops p i r (wr ++ G) (log ++ [(rd, wr)]) K) : KtR T O nt ops p i r G log K rd wr := by unfold KtR; rw [h0]; exact h
theorem Kr_f {T O nt ops G vars Q v G' acts} (h1 : regOk ops false G acts = true) (h2 : Q (.panic v) []) : Kr T O nt ops false G vars Q (some v) G' acts := ⟨h1, h2⟩
theorem Kr_t {T O nt ops G vars Q v G' acts} (h : vRest T O nt ops (acts.length - 1) acts.length (ops.drop acts.length) G' acts (KrR ops G (Q (.panic v) []))) : Kr T O nt ops true G vars Q (some v) G' acts := h
theorem imp_i {p q : Prop} (h : p → q) : impS p q := h
theorem Kr_i {T O nt ops draw G vars Q G' acts} (h1 : regOk ops draw G acts = true) (h2 : Q .normal (plain vars G')) : Kr T O nt ops draw G vars Q none G' acts := ⟨h1, h2⟩
def Ks (T : Tab) (O : Orc) (nt : Nat) (vars : Nat → List Nat) (y : Code) (Q : GEx → List (Nm × C) → Prop) : GEx → List (Nm × C) → Prop := GEx.seq (fun G' => vCode T O nt vars y G' Q) Q
theorem vSeq_i {T O nt vars x y G Q} (h : vCode T O nt vars x G (Ks T O nt vars y Q)) : vCode T O nt vars (.seq x y) G Q := h
theorem Ks_n {T O nt vars y Q G} (h : vCode T O nt vars y G Q) : Ks T O nt vars y Q .normal G := h
theorem Ks_e {T O nt vars y Q G id} (h : Q (.exit id) G) : Ks T O nt vars y Q (.exit id) G := h
theorem Ks_r {T O nt vars y Q G} (h : Q .ret G) : Ks T O nt vars y Q .ret G := h
theorem Ks_p {T O nt vars y Q G v} (h : Q (.panic v) G) : Ks T O nt vars y Q (.panic v) G := h
theorem blk_p {id Q G v} (h : Q (.panic v) G) : GEx.blk id Q (.panic v) G := h
theorem Ks_g {T O nt vars y Q G l} (h : Q (.goto l) G) : Ks T O nt vars y Q (.goto l) G := h
theorem blk_g {id Q G l} (h : Q (.goto l) G) : GEx.blk id Q (.goto l) G := h
theorem vGoto_i {T O nt vars l G Q} (h : Q (.goto l) G) : vCode T O nt vars (.goto l) G Q := h
theorem vLabel_i {T O nt vars l G Q} (h : Q .normal G) : vCode T O nt vars (.label l) G Q := h
theorem jmp_g {l J Q G} (h : J G) : GEx.jmp l J Q (.goto l) G := ⟨rfl, h⟩
theorem jmp_n {l J Q G} (h : Q .normal G) : GEx.jmp l J Q .normal G := h
theorem jmp_r {l J Q G} (h : Q .ret G) : GEx.jmp l J Q .ret G := h
theorem nog_n {Q G} (h : Q .normal G) : GEx.nog Q .normal G := h
theorem nog_r {Q G} (h : Q .ret G) : GEx.nog Q .ret G := h
theorem vRet_i {T O nt vars G Q} (h : Q .ret G) : vCode T O nt vars .ret G Q := h
theorem vSkip_i {T O nt vars G Q} (h : Q .normal G) : vCode T O nt vars .skip G Q := h
theorem vExit_i {T O nt vars G Q id} (h : Q (.exit id) G) : vCode T O nt vars (.exit id) G Q := h
theorem vBlock_i {T O nt vars G Q id x} (h : vCode T O nt vars x G (GEx.blk id Q)) : vCode T O nt vars (.block id x) G Q := h
theorem blk_n {id Q G} (h : Q .normal G) : GEx.blk id Q .normal G := h
theorem blk_r {id Q G} (h : Q .ret G) : GEx.blk id Q .ret G := h
theorem blk_e {id Q G} (h : Q .normal G) : GEx.blk id Q (.exit id) G := by simp only [GEx.blk, if_true]; exact h
theorem blk_o {id id' Q G} (hne : id' ≠ id) (h : Q (.exit id') G) : GEx.blk id Q (.exit id') G := by simp only [GEx.blk, if_neg hne]; exact h
theorem vCond_t {T O nt vars c x y G Q} (hc : opX (look G) c = .p (.one (.v (.raw (.bool true))))) (h : vCode T O nt vars x G Q) : vCode T O nt vars (.cond c x y) G Q := by simp only [vCode, hc]; exact h
theorem vCond_f {T O nt vars c x y G Q} (hc : opX (look G) c = .p (.one (.v (.raw (.bool false))))) (h : vCode T O nt vars y G Q) : vCode T O nt vars (.cond c x y) G Q := by simp only [vCode, hc]; exact h
/-- Small laws in one. -/
theorem SB : (∀ p : Prop, (True ∨ p) = True) ∧ (∀ p : Prop, (p ∨ True) = True) ∧ (∀ p : Prop, (True ∧ p) = p) ∧ (∀ p : Prop, (p ∧ True) = p) ∧ (∀ h : Decidable True, @decide True h = true) ∧ (∀ h : Decidable False, @decide False h = false) ∧ (∀ b : Bool, (b && b) = b) ∧ (∀ b : Bool, (b || b) = b) ∧ (¬False) = True ∧ (¬True) = False :=
  ⟨true_or, or_true, true_and, and_true, fun h => @decide_true h, fun h => @decide_false h, Bool.and_self, Bool.or_self, not_false_eq_true, not_true_eq_false⟩
/-- What a test comes to. -/
def CondP (z : X) (A B : Prop) : Prop := (z = .p (.one (.v (.raw (.bool true)))) ∧ A) ∨ (z = .p (.one (.v (.raw (.bool false)))) ∧ B)
theorem cp_t {A B : Prop} (h : A) : CondP (.p (.one (.v (.raw (.bool true))))) A B := .inl ⟨rfl, h⟩
theorem cp_f {A B : Prop} (h : B) : CondP (.p (.one (.v (.raw (.bool false))))) A B := .inr ⟨rfl, h⟩
theorem vCond_x {T O nt vars c x y G Q z} (hc : opX (look G) c = z) (h : CondP z (vCode T O nt vars x G Q) (vCode T O nt vars y G Q)) : vCode T O nt vars (.cond c x y) G Q := by
  rcases h with ⟨rfl, h⟩ | ⟨rfl, h⟩
  · exact vCond_t hc h
  · exact vCond_f hc h
/-- Behind a round of a loop. -/
def Kl {σ : Type} (S : σ → List (Nm × C)) (p : σ → Prop) (m : σ → Nat) (n : Nat) (Q : GEx → List (Nm × C) → Prop) : GEx → List (Nm × C) → Prop := GEx.seq (fun G'' => ∃ k, k < n ∧ ∃ s', p s' ∧ G'' = S s' ∧ m s' = k) Q
theorem Kl_n {σ : Type} {S : σ → List (Nm × C)} {p : σ → Prop} {m : σ → Nat} {n : Nat} {Q G} (h : ∃ s', p s' ∧ m s' < n ∧ G = S s') : Kl S p m n Q .normal G := by
  obtain ⟨s, h1, h2, h3⟩ := h
  exact ⟨m s, h2, s, h1, h3, rfl⟩
theorem Kl_e {σ : Type} {S : σ → List (Nm × C)} {p : σ → Prop} {m : σ → Nat} {n : Nat} {Q G id} (h : Q (.exit id) G) : Kl S p m n Q (.exit id) G := h
theorem Kl_r {σ : Type} {S : σ → List (Nm × C)} {p : σ → Prop} {m : σ → Nat} {n : Nat} {Q G} (h : Q .ret G) : Kl S p m n Q .ret G := h
theorem Kl_p {σ : Type} {S : σ → List (Nm × C)} {p : σ → Prop} {m : σ → Nat} {n : Nat} {Q G v} (h : Q (.panic v) G) : Kl S p m n Q (.panic v) G := h
theorem Kl_g {σ : Type} {S : σ → List (Nm × C)} {p : σ → Prop} {m : σ → Nat} {n : Nat} {Q G l} (h : Q (.goto l) G) : Kl S p m n Q (.goto l) G := h
/-- A loop, by what it keeps in mind. -/
theorem vLoop_s {T O nt vars x G Q} {σ : Type} (S : σ → List (Nm × C)) (p : σ → Prop) (m : σ → Nat) (s0 : σ) (h0 : p s0) (hG : G = S s0) (hr : ∀ s, p s → vCode T O nt vars x (S s) (Kl S p m (m s) Q)) : vCode T O nt vars (.loop x) G Q := by
  refine ⟨fun n G => ∃ s, p s ∧ G = S s ∧ m s = n, ⟨_, s0, h0, hG, rfl⟩, ?_⟩
  rintro n G' ⟨s, hs, rfl, rfl⟩
  exact hr s hs
/-- A round of a range over a function: the assignments; the body. -/
def Kx (T : Tab) (O : Orc) (nt : Nat) (vars : Nat → List Nat) (y : Code) (K : GEx → List (Nm × C) → Prop) (e : GEx) (G : List (Nm × C)) : Prop := e = .normal ∧ vCode T O nt vars y G K
theorem Kx_n {T O nt vars y K G} (h : vCode T O nt vars y G K) : Kx T O nt vars y K .normal G := ⟨rfl, h⟩
def Ky {σ : Type} (S : σ → List (Nm × C)) (p : σ → Prop) (W : List Nat) (Q : GEx → List (Nm × C) → Prop) (e : GEx) (G : List (Nm × C)) : Prop :=
  match e with
  | .normal => ∃ s, p s ∧ dropT W G = S s
  | .exit id => Q (.exit id) (dropT W G)
  | .ret => Q .ret (dropT W G)
  | .panic _ => False
  | .goto _ => False
theorem Ky_n {σ : Type} {S : σ → List (Nm × C)} {p : σ → Prop} {W Q G} (h : ∃ s, p s ∧ dropT W G = S s) : Ky S p W Q .normal G := h
theorem Ky_r {σ : Type} {S : σ → List (Nm × C)} {p : σ → Prop} {W Q G} (h : Q .ret (dropT W G)) : Ky S p W Q .ret G := h
/-- A range over a function, by what it keeps in mind. -/
theorem vRange_s {T O nt vars gx ps x y G Q gf caps} {σ : Type} (hgx : opX (look G) gx = .p (.one (.v (.clo gf caps)))) (els : List (List X)) (hit : ∀ K : List (List X) → Prop, K els → O.it gf caps K) (hlen : ∀ xs ∈ els, xs.length = ps.size) (hps : ∀ p ∈ ps.toList, p < nt) (W : List Nat) (hW : ps.toList ++ (wrs x ++ wrs y) = W)
    (S : σ → List (Nm × C)) (p : Nat → σ → Prop) (s0 : σ) (D : List Nat) (h0 : p 0 s0) (hG : dropT D G = S s0)
    (hr : ∀ k s xs, els[k]? = some xs → p k s → vCode T O nt vars x (setPs ps.toList xs (S s)) (Kx T O nt vars y (Ky S (p (k + 1)) W Q))) (he : ∀ s, p els.length s → Q .normal (S s)) : vCode T O nt vars (.rangeFunc gx ps x y) G Q := by
  simp only [vCode, hgx]
  refine hit _ ⟨hlen, hps, D, fun k G => ∃ s, p k s ∧ G = S s, ⟨s0, h0, hG⟩, ?_, ?_⟩
  · rintro k xs G1 hk ⟨s, hs, rfl⟩
    rw [hW]
    exact hr k s xs hk hs
  · rintro G1 ⟨s, hs, rfl⟩
    exact he s hs
theorem vB_i {p : Prop} {K : Bool → Prop} (h1 : p → K true) (h2 : ¬ p → K false) : vB p K := ⟨h1, h2⟩
/-! ### what an operation comes to: for simp -/
set_option linter.defProp false
theorem look_nil (n : Nm) : look [] n = .none := rfl
theorem look_cons (m c r n) : look ((m, c) :: r) n = if n = m then c else look r n := rfl
theorem cnt1 (xs : List SV) : cnt 1 xs = xs.length := by simp [cnt]
def E1 := And.intro @vStep.eq_1 <| And.intro @vOp.eq_1 <| And.intro @vMoveT.eq_1 <| And.intro @vPick.eq_1 <| And.intro @vAlloc.eq_1 <| And.intro @vBox.eq_1 <| And.intro @vBuild.eq_1 <| And.intro @vBuildSlice.eq_1 <| And.intro @vLoad.eq_1 <| And.intro @vStore.eq_1 <| And.intro @vNilCheck.eq_1 <| And.intro @vBin.eq_1 <| And.intro @vUn.eq_1 <| And.intro @vUn.eq_2 <| And.intro @vUn.eq_3 <| And.intro @unNot.eq_1 <| And.intro @unNot.eq_2 <| And.intro @unNeg.eq_1 <| And.intro @unNeg.eq_2 <| And.intro @vConv.eq_1 <| And.intro @vMake.eq_1 <| And.intro @vSliceR.eq_1 <| And.intro @vSliceV.eq_1 <| And.intro @vFieldAddr.eq_1 <| And.intro @vField.eq_1 <| And.intro @vIndexAddr.eq_1 <| And.intro @vIndex.eq_1 <| And.intro @vExtract.eq_1 <| And.intro @vCallB.eq_1 <| And.intro @vCallB.eq_2 <| And.intro @vCallB.eq_3 <| And.intro @vCallX.eq_1 <| And.intro @vSliceZ.eq_1 <| And.intro @vFunc.eq_1 <| And.intro @vFuncX.eq_1 <| And.intro @vFuncX.eq_2 <| And.intro @vFuncX.eq_3 <| And.intro @vFuncX.eq_4 <| And.intro @vClo.eq_1 <| And.intro @vClo.eq_2 <| And.intro @vLen.eq_1 <| And.intro @vAppend.eq_1 <| @vCall.eq_1
def E2 := And.intro @vCallG.eq_1 <| And.intro @dOk.eq_1 <| And.intro @vInt.eq_1 <| And.intro @vInt.eq_2 <| And.intro @vInt.eq_3 <| And.intro @vInt.eq_4 <| And.intro @vInt.eq_5 <| And.intro @vInt.eq_6 <| And.intro @vInt.eq_7 <| And.intro @vInt.eq_8 <| And.intro @vInt.eq_9 <| And.intro @vInt.eq_10 <| And.intro @vInt.eq_11 <| And.intro @vInt.eq_12 <| And.intro @vInt.eq_13 <| And.intro @vInt.eq_14 <| And.intro @vInt.eq_15 <| And.intro @vInt.eq_16 <| And.intro @vInt.eq_17 <| And.intro @vStr.eq_1 <| And.intro @vStr.eq_2 <| And.intro @vStr.eq_3 <| And.intro @vStr.eq_4 <| And.intro @vStr.eq_5 <| And.intro @opR.eq_1 <| And.intro @opR.eq_2 <| And.intro @opX.eq_1 <| And.intro @opX.eq_2 <| And.intro @opX.eq_3 <| And.intro @opX.eq_4 <| And.intro @opX.eq_5 <| And.intro @putT.eq_1 <| And.intro @putT.eq_2 <| And.intro @nlAs.eq_1 <| And.intro @nlAs.eq_2 <| And.intro @ptrTo.eq_1 <| And.intro @ptrTo.eq_2 <| And.intro @ptrTo.eq_3 <| And.intro @ptrTo.eq_4 <| And.intro @ptrTo.eq_5 <| And.intro @ptrAdd.eq_1 <| And.intro @ptrAdd.eq_2 <| And.intro @ptrAdd.eq_3 <| And.intro @ptrAdd.eq_4 <| And.intro @ptrAdd.eq_5 <| And.intro @slOf.eq_1 <| And.intro @slOf.eq_2 <| And.intro @slOf.eq_3 <| And.intro @slOf.eq_4 <| And.intro @slOf.eq_5 <| And.intro @optI.eq_1 <| And.intro @optI.eq_2 <| And.intro @optR.eq_1 <| And.intro @optR.eq_2 <| And.intro @dstOf.eq_1 <| And.intro @dstOf.eq_2 <| And.intro @dstOf.eq_3 <| And.intro @frzW.eq_1 <| And.intro @cellsOf.eq_1 <| And.intro @cellsOf.eq_2 <| And.intro @cellsOf.eq_3 <| And.intro @cellOk.eq_1 <| And.intro @cellOk.eq_2 <| And.intro @cellOk.eq_3 <| And.intro @isRow.eq_1 <| And.intro @isRow.eq_2 <| And.intro @isSlT.eq_1 <| And.intro @nilK.eq_1 <| And.intro @nilK.eq_2 <| And.intro @nilK.eq_3 <| And.intro @eqK.eq_1 <| And.intro @eqK.eq_2 <| And.intro @eqK.eq_3 <| And.intro @arrK.eq_1 <| And.intro @tvNm.eq_1 <| And.intro @tvNm.eq_2 <| And.intro @tvAt.eq_1 <| And.intro @partsT.eq_1 <| And.intro @partsR.eq_1 <| And.intro @fty.eq_1 <| And.intro @putAt.eq_1 <| And.intro @rowsW.eq_1 <| And.intro @rowsW.eq_2 <| And.intro @argsV.eq_1 <| And.intro @argsV.eq_2 <| And.intro @byVal.eq_1 <| And.intro @byVal.eq_2 <| And.intro @byVal.eq_3 <| And.intro @frzT.eq_1 <| And.intro @frzT.eq_2 <| And.intro @frzT.eq_3 <| And.intro @frzT.eq_4 <| And.intro @frzT.eq_5 <| And.intro @frzT.eq_6 <| And.intro @frzL.eq_1 <| And.intro @frzL.eq_2 <| And.intro @partsF.eq_1 <| And.intro @partsF.eq_2 <| And.intro @placesT.eq_1 <| And.intro @placesT.eq_2 <| And.intro @fillG.eq_1 <| And.intro @fillG.eq_2 <| And.intro @zTV.eq_1 <| And.intro @zTV.eq_2 <| And.intro @zSV.eq_1 <| And.intro @zSV.eq_2 <| And.intro @zeros.eq_1 <| And.intro @svs.eq_1 <| And.intro @svs.eq_2 <| And.intro @svs.eq_3 <| And.intro @rawX.eq_1 <| And.intro @deadX.eq_1 <| And.intro @TV.sh.eq_1 <| And.intro @TV.sh.eq_2 <| And.intro @PX.sh.eq_1 <| And.intro @PX.sh.eq_2 <| And.intro @X.sh.eq_1 <| And.intro @X.sh.eq_2 <| And.intro @TV.small.eq_1 <| And.intro @TV.small.eq_2 <| And.intro @PX.all.eq_1 <| And.intro @PX.all.eq_2 <| And.intro @X.all.eq_1 <| And.intro @X.all.eq_2 <| And.intro @TK.agg.eq_1 <| And.intro @TK.agg.eq_2 <| And.intro @TK.agg.eq_3 <| And.intro @simple.eq_1 <| And.intro @simple.eq_2 <| And.intro @simple.eq_3 <| And.intro @simple.eq_4 <| And.intro @simple.eq_5 <| And.intro @simple.eq_6 <| And.intro @simple.eq_7 <| And.intro @simple.eq_8 <| And.intro @simple.eq_9 <| And.intro @simple.eq_10 <| And.intro @simple.eq_11 <| And.intro @th.eq_1 <| And.intro @isPtT.eq_1 <| And.intro @isIfT.eq_1 <| And.intro @isCon.eq_1 <| And.intro @isCon.eq_2 <| And.intro @vOpF.eq_1 <| And.intro @frzArg.eq_1 <| And.intro @frzArg.eq_2 <| And.intro @frzArg.eq_3 <| And.intro @opArgs.eq_1 <| And.intro @frzP.eq_1 <| And.intro @ups.eq_1 <| And.intro @ups.eq_2 <| And.intro @up.eq_1 <| And.intro @vCallM.eq_1 <| And.intro @vCallM.eq_2 <| And.intro @vCallS.eq_1 <| And.intro @vCallS.eq_2 <| And.intro @moveK.eq_1 <| And.intro @vCallBx.eq_1 <| And.intro @bxM.eq_1 <| And.intro @nestH.eq_1 <| And.intro @argH.eq_1 <| And.intro @argH.eq_2 <| And.intro @boxH.eq_1 <| And.intro @prH.eq_1 <| And.intro @prH.eq_2 <| And.intro @prH.eq_3 <| And.intro @addM.eq_1 <| And.intro @cellB.eq_1 <| And.intro @cellB.eq_2 <| And.intro @cellB.eq_3 <| And.intro @cellB.eq_4 <| And.intro @cellsB.eq_1 <| And.intro @cellsB.eq_2 <| And.intro @byB.eq_1 <| And.intro @byB.eq_2 <| And.intro @byB.eq_3 <| And.intro @argsB.eq_1 <| And.intro @argsB.eq_2 <| And.intro @boxesB.eq_1 <| And.intro @boxesB.eq_2 <| And.intro @backT.eq_1 <| And.intro @backT.eq_2 <| And.intro @backT.eq_3 <| And.intro @boxW.eq_1 <| And.intro @boxW.eq_2 <| And.intro @numb.eq_1 <| And.intro @numb.eq_2 <| And.intro @noneW.eq_1 <| And.intro @capH.eq_1 <| And.intro @capH.eq_2 <| And.intro @vFuncB.eq_1 <| And.intro @vIface.eq_1 <| And.intro @vPanic.eq_1 <| And.intro @vConvS.eq_1 <| @vConvX.eq_1
def E3 := And.intro @plain.eq_1 <| And.intro @frzs.eq_1 <| And.intro @frzs.eq_2 <| And.intro @frzC.eq_1 <| And.intro @frzC.eq_2 <| And.intro @frzD.eq_1 <| And.intro @frzD.eq_2 <| And.intro @frzD.eq_3 <| And.intro @frzD.eq_4 <| And.intro @frzB.eq_1 <| And.intro @frzB.eq_2 <| And.intro @frzBL.eq_1 <| And.intro @frzBL.eq_2 <| And.intro @frzX.eq_1 <| And.intro @frzX.eq_2 <| And.intro @denls.eq_1 <| And.intro @denls.eq_2 <| And.intro @denlT.eq_1 <| And.intro @nlW.eq_1 <| And.intro @nlW.eq_2 <| And.intro @allUnder.eq_1 <| And.intro @denlBs.eq_1 <| And.intro @denlBs.eq_2 <| And.intro @denlB.eq_1 <| And.intro @nlCells.eq_1 <| And.intro @nlCells.eq_2 <| And.intro @nlCells.eq_3 <| And.intro @boxHomes.eq_1 <| And.intro @mkM.eq_1 <| And.intro @nest.eq_1 <| And.intro @addH.eq_1 <| And.intro @mOk.eq_1 <| And.intro @mOk.eq_2 <| And.intro @listF.eq_1 <| And.intro @ent.eq_1 <| And.intro @isDead.eq_1 <| And.intro @isDead.eq_2 <| And.intro @isDead.eq_3 <| And.intro @renF.eq_1 <| And.intro @renF.eq_2 <| And.intro @renF.eq_3 <| And.intro @renC.eq_1 <| And.intro @renC.eq_2 <| And.intro @renC.eq_3 <| And.intro @renX.eq_1 <| And.intro @renX.eq_2 <| And.intro @renPX.eq_1 <| And.intro @renPX.eq_2 <| And.intro @renTV.eq_1 <| And.intro @renTV.eq_2 <| And.intro @renTV.eq_3 <| And.intro @renTV.eq_4 <| And.intro @renTV.eq_5 <| And.intro @fwd.eq_1 <| And.intro @fwds.eq_1 <| And.intro @fwds.eq_2 <| And.intro @inv.eq_1 <| And.intro @TV.homes.eq_1 <| And.intro @TV.homes.eq_2 <| And.intro @TV.homes.eq_3 <| And.intro @TV.homes.eq_4 <| And.intro @TV.homes.eq_5 <| And.intro @PX.homes.eq_1 <| And.intro @PX.homes.eq_2 <| And.intro @X.homes.eq_1 <| And.intro @X.homes.eq_2 <| And.intro @C.homes.eq_1 <| And.intro @C.homes.eq_2 <| And.intro @C.homes.eq_3 <| And.intro @Nm.homes.eq_1 <| And.intro @Nm.homes.eq_2 <| @Nm.homes.eq_3
def E4 := And.intro @vEnd.eq_1 <| And.intro @endX.eq_1 <| And.intro @endX.eq_2 <| And.intro @endP.eq_1 <| And.intro @endP.eq_2 <| And.intro @endPs.eq_1 <| And.intro @endPs.eq_2 <| And.intro @endC.eq_1 <| And.intro @endC.eq_2 <| And.intro @endC.eq_3 <| And.intro @endL.eq_1 <| And.intro @endL.eq_2 <| And.intro @endB.eq_1 <| And.intro @endB.eq_2 <| And.intro @endB.eq_3 <| And.intro @isPr.eq_1 <| And.intro @isPr.eq_2 <| And.intro @isPrX.eq_1 <| And.intro @isPrX.eq_2 <| And.intro @vRes.eq_1 <| And.intro @resX.eq_1 <| And.intro @partsOf.eq_1 <| And.intro @partsOf.eq_2 <| And.intro @partOf.eq_1 <| And.intro @partOf.eq_2 <| And.intro @resM.eq_1 <| And.intro @dedup.eq_1 <| And.intro @rowAt.eq_1 <| And.intro @rowsAt.eq_1 <| And.intro @rowsAt.eq_2 <| And.intro @numbered.eq_1 <| @numbered.eq_2
theorem range_0 : List.range 0 = [] := rfl
theorem range_1 : List.range 1 = [0] := rfl
theorem range_2 : List.range 2 = [0, 1] := rfl
theorem range_3 : List.range 3 = [0, 1, 2] := rfl
theorem range_4 : List.range 4 = [0, 1, 2, 3] := rfl
theorem range_5 : List.range 5 = [0, 1, 2, 3, 4] := rfl
theorem range_6 : List.range 6 = [0, 1, 2, 3, 4, 5] := rfl
theorem range_7 : List.range 7 = [0, 1, 2, 3, 4, 5, 6] := rfl
theorem range_8 : List.range 8 = [0, 1, 2, 3, 4, 5, 6, 7] := rfl
theorem range_9 : List.range 9 = [0, 1, 2, 3, 4, 5, 6, 7, 8] := rfl
theorem range_10 : List.range 10 = [0, 1, 2, 3, 4, 5, 6, 7, 8, 9] := rfl
theorem range_11 : List.range 11 = [0, 1, 2, 3, 4, 5, 6, 7, 8, 9, 10] := rfl
theorem range_12 : List.range 12 = [0, 1, 2, 3, 4, 5, 6, 7, 8, 9, 10, 11] := rfl
def E5 := And.intro @range_0 <| And.intro @range_1 <| And.intro @range_2 <| And.intro @range_3 <| And.intro @range_4 <| And.intro @range_5 <| And.intro @range_6 <| And.intro @range_7 <| And.intro @range_8 <| And.intro @range_9 <| And.intro @range_10 <| And.intro @range_11 <| And.intro @range_12 <| And.intro @List.replicate_zero.{0} <| And.intro @look_nil <| And.intro @look_cons <| And.intro @cnt1 <| And.intro @Bool.and_true <| And.intro @Bool.true_and <| And.intro @Bool.and_false <| And.intro @Bool.false_and <| And.intro @Bool.or_false <| And.intro @Bool.or_true <| And.intro @Bool.true_or <| And.intro @Bool.false_or <| And.intro @Nm.t.injEq <| And.intro @Nm.row.injEq <| And.intro @Nm.box.injEq <| And.intro @Bool.not_true <| And.intro @Bool.not_false <| And.intro @Bool.false_eq_true <| And.intro @Nat.zero_add <| And.intro @Nat.add_zero <| And.intro @List.nil_append.{0} <| And.intro @List.cons_append.{0} <| And.intro @List.append_nil.{0} <| And.intro @List.length_cons.{0} <| And.intro @List.length_nil.{0} <| And.intro @List.all_cons.{0} <| And.intro @List.all_nil.{0} <| And.intro @List.any_cons.{0} <| And.intro @List.any_nil.{0} <| And.intro @List.getElem?_cons_zero.{0} <| And.intro @List.getElem?_cons_succ.{0} <| And.intro @List.getElem?_nil.{0} <| And.intro @List.getD_cons_zero.{0} <| And.intro @List.getD_cons_succ.{0} <| And.intro @List.getD_nil.{0} <| And.intro @List.take_zero.{0} <| And.intro @List.take_succ_cons.{0} <| And.intro @List.drop_zero.{0} <| And.intro @List.drop_succ_cons.{0} <| And.intro @List.take_nil.{0} <| And.intro @List.drop_nil.{0} <| And.intro @List.headD_cons.{0} <| And.intro @List.headD_nil.{0} <| And.intro @List.isEmpty_nil.{0} <| And.intro @List.isEmpty_cons.{0} <| And.intro @List.find?_cons.{0} <| And.intro @List.find?_nil.{0} <| And.intro @Option.some.injEq.{0} <| And.intro @beq_self_eq_true.{0} <| And.intro @List.map_cons.{0, 0} <| And.intro @List.map_nil.{0, 0} <| And.intro @List.flatMap_cons.{0, 0} <| And.intro @List.flatMap_nil.{0, 0} <| And.intro @List.foldl_cons.{0, 0} <| And.intro @List.foldl_nil.{0, 0} <| And.intro @Option.map_some.{0, 0} <| And.intro @Option.map_none.{0, 0} <| And.intro @Option.bind_some.{0, 0} <| And.intro @Option.bind_none.{0, 0} <| And.intro @List.filterMap_cons.{0, 0} <| @List.filterMap_nil.{0, 0}
theorem cut_len {e : Nat} {xs : List SV} {l h : Int} (he : e = 1) (h0 : 0 ≤ l) (h1 : l ≤ h) (h2 : h ≤ xs.length) : ((cutSV e xs l h).length : Int) = h - l := by
  subst he; simp [cutSV]; omega
theorem cut_to (xs : List SV) (h : Int) (h0 : 0 ≤ h) : cutSV 1 xs 0 h = xs.take h.toNat := by simp [cutSV]
theorem cut_from (xs : List SV) (l : Int) (h0 : 0 ≤ l) : cutSV 1 xs l xs.length = xs.drop l.toNat := by
  simp only [cutSV, Nat.mul_one]
  exact List.take_of_length_le (by simp; omega)
def lv (l : List (List Nat)) (i : Nat) : List Nat := l.getD i []
/-! ### the end of a function -/
def Kf (T : Tab) (rs : List ResultVar) (res : X) (rows : Rows) (e : GEx) (G : List (Nm × C)) : Prop := (e = .normal ∨ e = .ret) ∧ vRes T rs G fun res' rows' => res' = res ∧ rows' = rows
theorem Kf_r {T rs res rows G} (h : vRes T rs G fun res' rows' => res' = res ∧ rows' = rows) : Kf T rs res rows .ret G := ⟨.inr rfl, h⟩
theorem fn_ok' {P : Program} {T : Tab} {O : Orc} (hT : Tok P T) (hO : OrcOk P O) (hm : P.follows .mixedOrders = true) {f : Nat} {fn : Func} {c : Code} (hf : P.funcs[f]? = some fn) (hb : fn.body = some c) (hcb : callableB fn = true) (vars : Nat → List Nat) (nt : Nat) (hnt : fn.ntmps = nt)
    {args : List X} {res : X} {rows : Rows} {fr : Bool} (hn : args.length ≤ nt) (hres : res.all TV.res = true) (hfr : fr = true → res.all TV.rawR = true ∧ ∀ r ∈ rows, ∀ x ∈ r.2.2, x.isRaw = true)
    (h : vCode T O nt vars c (argsG 0 args) (Kf T fn.results.toList res rows)) : CallOk P f args res rows fr := by
  subst hnt
  exact fn_ok hT hO hm hf hb hcb vars hn hres hfr h
theorem fn_nil' {P : Program} {T : Tab} {O : Orc} (hT : Tok P T) (hO : OrcOk P O) (hm : P.follows .mixedOrders = true) {f : Nat} {fn : Func} {c : Code} (hf : P.funcs[f]? = some fn) (hb : fn.body = some c) (hcb : callableB fn = true) (vars : Nat → List Nat) (ty : Nat) (nt : Nat) (hnt : fn.ntmps = nt)
    {e0 : Nat} {xs : List SV} {args : List X} {res : X} {rows : Rows} {fr : Bool} (hn : args.length + 1 ≤ nt) (hres : res.all TV.res = true) (hfr : fr = true → res.all TV.rawR = true ∧ ∀ r ∈ rows, ∀ x ∈ r.2.2, x.isRaw = true)
    (h1 : xs = [] → vCode T O nt vars c (argsG 0 (.p (.one (.nl ty 0)) :: args)) (Kf T fn.results.toList res rows))
    (h2 : vCode T O nt vars c (argsG 0 (.p (.one (.nn e0 xs)) :: args)) (Kf T fn.results.toList res rows)) : CallOk P f (.p (.one (.v (.sl e0 xs))) :: args) res rows fr := by
  subst hnt
  exact fn_nil hT hO hm hf hb hcb vars ty hn hres hfr h1 h2
theorem wrap_in {n : Int} (h1 : -9223372036854775808 ≤ n) (h2 : n ≤ 9223372036854775807) : IntKind.i64.wrap n = n := by rw [IntKind.wrap_i64]; omega
theorem wrap32_in {n : Int} (h1 : -2147483648 ≤ n) (h2 : n ≤ 2147483647) : IntKind.i32.wrap n = n := by simp [IntKind.wrap, IntKind.bits, IntKind.signed]; omega
def noO : Orc := ⟨fun _ _ _ => False, fun _ _ _ => False, fun _ _ _ _ => False, fun _ => false, fun _ _ _ _ => False, fun _ => false, fun _ _ _ _ => False, fun _ => false⟩
theorem noO_ok (P) : OrcOk P noO := ⟨fun _ _ _ _ h => h.elim, fun _ _ _ _ h => h.elim, fun _ _ _ _ h => h.elim, fun _ _ _ h => h.elim, fun _ _ _ h => h.elim⟩
theorem noO_mv (f : Nat) : noO.mv f = false := rfl
theorem noO_bx (f : Nat) : noO.bx f = false := rfl
theorem noO_sx (f : Nat) : noO.sx f = false := rfl
theorem fn_okM' {P : Program} {T : Tab} {O : Orc} (hT : Tok P T) (hO : OrcOk P O) (hm : P.follows .mixedOrders = true) {f : Nat} {fn : Func} {c : Code} (hf : P.funcs[f]? = some fn) (hb : fn.body = some c) (hcb : callableB fn = true) (vars : Nat → List Nat) (nt : Nat) (hnt : fn.ntmps = nt)
    {row : Nat × Nat × List SV} {args : List X} {res : X} {rows : Rows} (hn : args.length + 1 ≤ nt) (hres : res.all TV.res = true)
    (h : vCode T O nt vars c ((.row 0, .row row.1 row.2.1 row.2.2) :: argsG 0 (.p (.one (.sr 0)) :: args)) (Kf T fn.results.toList res rows)) : CallM P f row args res rows := by
  subst hnt
  exact fn_okM hT hO hm hf hb hcb vars hn hres h
theorem fn_okB' {P : Program} {T : Tab} {O : Orc} (hT : Tok P T) (hO : OrcOk P O) (hm : P.follows .mixedOrders = true) {f : Nat} {fn : Func} {c : Code} (hf : P.funcs[f]? = some fn) (hb : fn.body = some c) (hcb : callableB fn = true) (vars : Nat → List Nat) (nt : Nat) (hnt : fn.ntmps = nt)
    {bs0 : Boxes} {args : List X} {out : Out} (hn : args.length ≤ nt) (hok : out.ok bs0.length) (h : vCode T O nt vars c (lentL 0 bs0 ++ argsG 0 args) (Kb T fn.results.toList args (wrs c) out)) : CallB P f bs0 args out := by
  subst hnt
  exact fn_okB hT hO hm hf hb hcb vars hn hok h
theorem Kb_n {T rs args W res bs G} (h : vEnd T rs args W (bs.map fun b => !b.2.isEmpty) G fun res' bs' => res' = res ∧ bs'.map (fun b => b.2) = bs.map (fun b => b.2) ∧ bs'.map (fun b => if b.2.isEmpty then 0 else b.1) = bs.map (fun b => if b.2.isEmpty then 0 else b.1)) : Kb T rs args W (.ret res bs) .normal G := h
theorem Kb_r {T rs args W res bs G} (h : vEnd T rs args W (bs.map fun b => !b.2.isEmpty) G fun res' bs' => res' = res ∧ bs'.map (fun b => b.2) = bs.map (fun b => b.2) ∧ bs'.map (fun b => if b.2.isEmpty then 0 else b.1) = bs.map (fun b => if b.2.isEmpty then 0 else b.1)) : Kb T rs args W (.ret res bs) .ret G := h
theorem Kb_p {T rs args W v G} : Kb T rs args W (.pan v) (.panic v) G := rfl
abbrev sl (xs : List SV) : X := .p (.one (.v (.sl 1 xs)))
abbrev sln (e : Nat) (xs : List SV) : X := .p (.one (.v (.sl e xs)))
abbrev i64 (n : Int) : X := .p (.one (.v (.raw (.int .i64 n))))
abbrev bo (b : Bool) : X := .p (.one (.v (.raw (.bool b))))
end Go.Proofs.YtdpflafjfkooeaaDoorG
