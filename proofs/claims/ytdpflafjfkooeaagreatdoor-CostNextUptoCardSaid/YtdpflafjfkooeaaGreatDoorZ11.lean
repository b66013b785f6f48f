/- YtdpflafjfkooeaaGreatDoorZ11: a part of the proof, joined of its texts. -/
import Derived.Test.YtdpflafjfkooeaaGreatDoorZ10
/- G14: functions by value. -/
namespace Go.Proofs.YtdpflafjfkooeaaGreatDoorG
open Go Go.RowKit
set_option linter.unusedVariables false
set_option linter.unusedSimpArgs false
def partOf (T : Tab) (Γ : Nm → C) : ResultVar → Option PX
  | .tmp t => match Γ (.t t) with | .t (.p x) => some x | _ => none
  | .cell a ty => match ptrTo Γ (opX Γ (.tmp a)), T ty with
    | some (xs, k, _), some ti => if k + ti.size ≤ xs.length then (if ti.k.agg then some (.agg ((List.range ti.size).map fun j => tvAt xs (k + j))) else if ti.size = 1 then some (.one (tvAt xs k)) else none) else none
    | _, _ => none
def partsOf (T : Tab) (Γ : Nm → C) : List ResultVar → Option (List PX)
  | [] => some []
  | r :: rs => match partOf T Γ r, partsOf T Γ rs with | some x, some xs => some (x :: xs) | _, _ => none
def resX (T : Tab) (Γ : Nm → C) (rs : List ResultVar) : Option X := (partsOf T Γ rs).map fun xs => match xs with | [x] => .p x | xs => .tup xs
theorem sureAddr_ptr {P : Program} {u : Value} {ad : Addr} {w : World} (h : u = .pointer (some ad)) : (asAddr u).run P w = .ok ad w := by subst h; rfl
def rvAct (tmps : Array Value) : ResultVar → Sem Value
  | .tmp t => pure (tmps.getD t undef)
  | .cell a t => do loadVar t (← asAddr (tmps.getD a undef))
theorem partOf_run {P T Γ nt a w g rv x} (hT : Tok P T) (r : Rel Γ nt a w g) (h : partOf T Γ rv = some x) : ∃ v, (rvAct a.tmps rv).run P w = .ok v w ∧ PXR w g v x := by
  cases rv with
  | tmp t =>
    simp only [partOf] at h
    split at h
    · rename_i y hy
      cases h
      exact ⟨_, rfl, r.tmp hy⟩
    · cases h
  | cell ad ty =>
    simp only [partOf] at h
    split at h
    · rename_i xs k rd ti hp ht
      have hc := ptrTo_cells (Δ := Γ) hp (fun _ _ => rfl) r (opX_rel r (.tmp ad))
      have hc' := hc
      obtain ⟨b, off, us, hv, _⟩ := hc'.out
      have hv' : a.tmps.getD ad undef = .pointer (some ⟨b, off + k, none⟩) := hv
      have hrun : ∀ v, (Instr.loadAt ty (a.eval (.tmp ad))).run P w = .ok v w → (rvAct a.tmps (.cell ad ty)).run P w = .ok v w := fun v hh => by
        simp only [rvAct]
        rw [run_bind_ok (sureAddr_ptr hv')]
        have : a.eval (.tmp ad) = .pointer (some ⟨b, off + k, none⟩) := hv
        rw [this] at hh
        simp only [Instr.loadAt, Instr.sureAddr] at hh
        rw [run_bind_ok (a := (⟨b, off + k, none⟩ : Addr)) (w' := w) rfl] at hh
        exact hh
      split at h
      · rename_i hlen
        split at h
        · rename_i ha
          cases h
          obtain ⟨v, h1, h2⟩ := hc.agg (hT ty ti ht) ha hlen
          rw [slice_eq_map _ _ _ hlen] at h2
          exact ⟨v, hrun v h1, h2⟩
        · rename_i ha
          split at h
          · rename_i h1'
            cases h
            have hk : k < xs.length := by omega
            obtain ⟨v, h1, h2⟩ := hc.one (hT ty ti ht) (by simpa using ha) (x := tvAt xs k) (by simp [tvAt, List.getD, List.getElem?_eq_getElem hk])
            exact ⟨v, hrun v h1, h2⟩
          · cases h
      · cases h
    · cases h
theorem partsOf_run {P T Γ nt a w g} (hT : Tok P T) (r : Rel Γ nt a w g) : ∀ {rs : List ResultVar} {xs}, partsOf T Γ rs = some xs → ∃ vs : List Value, (rs.mapM (rvAct a.tmps)).run P w = .ok vs w ∧ All2 (PXR w g) vs xs
  | [], xs, h => by simp [partsOf] at h; subst h; exact ⟨[], by simp [List.mapM_nil], .nil⟩
  | rv :: rs, xs, h => by
    simp only [partsOf] at h
    split at h
    · rename_i x xs' h1 h2
      cases h
      obtain ⟨v, e1, e2⟩ := partOf_run hT r h1
      obtain ⟨vs, e3, e4⟩ := partsOf_run hT r h2
      refine ⟨v :: vs, ?_, .cons e2 e4⟩
      rw [List.mapM_cons, run_bind_ok e1, run_bind_ok e3]
      rfl
    · cases h
theorem resX_run {P T Γ nt a w g x} {fn : Func} (hT : Tok P T) (r : Rel Γ nt a w g) (h : resX T Γ fn.results.toList = some x) : ∃ v, (results fn a.tmps).run P w = .ok v w ∧ XR w g v x := by
  obtain ⟨xs, hxs, hx⟩ := Option.map_eq_some_iff.1 h
  obtain ⟨vs, h1, h2⟩ := partsOf_run hT r hxs
  have hmap : (fn.results.mapM (rvAct a.tmps)).run P w = .ok vs.toArray w := by
    rw [Array.mapM_eq_mapM_toList, map_eq_pure_bind, run_bind_ok h1]
    rfl
  have e : results fn a.tmps = (do let vs ← fn.results.mapM (rvAct a.tmps); pure (if h : vs.size = 1 then vs[0] else .tuple vs)) := by
    rfl
  rw [e, run_bind_ok hmap]
  refine ⟨_, rfl, ?_⟩
  cases xs with
  | nil =>
    cases vs with
    | nil => subst hx; exact ⟨#[], by simp, .nil⟩
    | cons v vs => have := h2.1; simp at this
  | cons y ys =>
    cases vs with
    | nil => have := h2.1; simp at this
    | cons v vs =>
      cases ys with
      | nil =>
        cases vs with
        | nil => subst hx; exact (by simpa using h2.head : PXR w g _ y)
        | cons v' vs => have := h2.tail.1; simp at this
      | cons z ys =>
        cases vs with
        | nil => have := h2.tail.1; simp at this
        | cons v' vs => subst hx; exact ⟨(v :: v' :: vs).toArray, by simp, by simpa using h2⟩
/-! ### results in their plain form -/
def dedup (m : List (Nat × Nat)) (h : Nat) : List (Nat × Nat) := if m.any (fun p => p.1 == h) then m else m ++ [(h, m.length)]
def resM (x : X) : List (Nat × Nat) := x.homes.foldl dedup []
def rowAt (Γ : Nm → C) (h : Nat) : Option (Nat × Nat × List SV) := match Γ (.row h) with | .row ty e xs => some (ty, e, xs) | _ => none
def rowsAt (Γ : Nm → C) : List (Nat × Nat) → Option Rows
  | [] => some []
  | (h, _) :: r => match rowAt Γ h, rowsAt Γ r with | some x, some xs => some (x :: xs) | _, _ => none
def numbered : Nat → List (Nat × Nat) → Bool
  | _, [] => true
  | k, (_, j) :: r => decide (j = k) && numbered (k + 1) r
def vRes (T : Tab) (rs : List ResultVar) (G : List (Nm × C)) (K : X → Rows → Prop) : Prop :=
  match resX T (look G) rs with
  | some x => mOk (resM x) = true ∧ numbered 0 (resM x) = true ∧ match rowsAt (look G) (resM x) with
    | some rows => K (renX (resM x) x) rows
    | none => False
  | none => False
theorem rowsAt_get {Γ : Nm → C} : ∀ {m : List (Nat × Nat)} {k0 : Nat} {rows : Rows}, rowsAt Γ m = some rows → numbered k0 m = true → ∀ k ty e xs, rows[k]? = some (ty, e, xs) → ∃ h, (h, k0 + k) ∈ m ∧ Γ (.row h) = .row ty e xs
  | [], k0, rows, h, _, k, ty, e, xs, hk => by simp [rowsAt] at h; subst h; simp at hk
  | (h0, j) :: m, k0, rows, h, hn, k, ty, e, xs, hk => by
    simp only [rowsAt] at h
    simp only [numbered, Bool.and_eq_true, decide_eq_true_eq] at hn
    split at h
    · rename_i x xs' h1 h2
      cases h
      cases k with
      | zero =>
        simp at hk
        subst hk
        unfold rowAt at h1
        split at h1
        · rename_i hr; cases h1; exact ⟨h0, by simp [hn.1], hr⟩
        · cases h1
      | succ k =>
        obtain ⟨h', hm, hr⟩ := rowsAt_get h2 hn.2 k ty e xs (by simpa using hk)
        exact ⟨h', by rw [show k0 + (k + 1) = k0 + 1 + k by omega]; exact List.mem_cons_of_mem _ hm, hr⟩
    · cases h
def argsG : Nat → List X → List (Nm × C)
  | _, [] => []
  | i, x :: r => (.t i, .t x) :: argsG (i + 1) r
theorem look_argsG {w : World} {g : Gh} : ∀ {args : List X} {vs : List Value} {k i : Nat}, All2 (XR w g) vs args → ∀ x, look (argsG k args) (.t i) = .t x → ∃ v, vs[i - k]? = some v ∧ k ≤ i ∧ XR w g v x
  | [], vs, k, i, ha, x, h => by simp [argsG, look] at h
  | y :: args, vs, k, i, ha, x, h => by
    cases vs with
    | nil => have := ha.1; simp at this
    | cons v vs =>
      simp only [argsG, look] at h
      split at h
      · rename_i e
        cases e
        cases h
        exact ⟨v, by simp, Nat.le_refl _, ha.head⟩
      · obtain ⟨v', h1, h2, h3⟩ := look_argsG (k := k + 1) ha.tail x h
        refine ⟨v', ?_, by omega, h3⟩
        rw [show i - k = (i - (k + 1)) + 1 by omega]
        simpa using h1
theorem look_argsG_other : ∀ {args : List X} {k : Nat} {n : Nm}, (∀ i, n ≠ .t i) → look (argsG k args) n = .none
  | [], k, n, h => rfl
  | y :: args, k, n, h => by simp only [argsG, look]; rw [if_neg (h k)]; exact look_argsG_other h
theorem look_argsG_t : ∀ {args : List X} {k i : Nat}, look (argsG k args) (.t i) = .none ∨ ∃ x, look (argsG k args) (.t i) = .t x
  | [], k, i => .inl rfl
  | y :: args, k, i => by
    simp only [argsG, look]
    split
    · exact .inr ⟨y, rfl⟩
    · exact look_argsG_t
def callableB (fn : Func) : Bool := !(fn.name == "runtime.NumGoroutine") && fn.body.isSome
theorem callable_of {P : Program} {f : Nat} {fn : Func} (hf : P.funcs[f]? = some fn) (hb : callableB fn = true) : ∀ vs w, (callFunc f vs).run P w = .ok (.enter f vs) w := fun vs w => by
  simp only [callableB, Bool.and_eq_true, Bool.not_eq_true'] at hb
  have h2 : fn.body.isNone = false := by cases hh : fn.body <;> simp_all
  unfold callFunc
  show ((Sem.program Sem.pure : Sem Program) >>= _).run P w = _
  rw [run_bind_ok (a := P) (w' := w) rfl]
  simp only [hf]
  rw [hb.1, h2]
  rfl
theorem leaves_marks {P : Program} {fn : Func} {nt : Nat} {R : Ending → World → Prop} {Γ : Nm → C} {a : Act} {w0 : World} {g0 : Gh} : ∀ (ds : List Deferred) {w : World} {g : Gh}, Rel Γ nt a w g → Fr w0 w g0.o g.o → Env w0.heap.size none ds w g →
    (∀ w g, Rel Γ nt a w g → Fr w0 w g0.o g.o → LeavesIn Fence.wide 0 P fn a.tmps R [] .returning w) → LeavesInM Fence.wide 0 P fn a.tmps R ds .returning w
  | [], w, g, r, f, e, h => h w g r f
  | d :: ds, w, g, r, f, e, h => by
    obtain ⟨D, rfl, h1, h2, h3, h4⟩ := e.hd d (by simp)
    refine ⟨by simp, .inl ⟨D, _, rfl, run_takeDeferred h4, leaves_marks ds (r.putO h3 _) (f.putO h1 _) ?_ h⟩⟩
    refine ⟨by simpa using e.hn, fun l hl => (by cases hl), fun d' hd' => ?_, (List.nodup_cons.1 e.nd).2⟩
    obtain ⟨D', rfl, q1, q2, q3, q4⟩ := e.hd d' (by simp [hd'])
    have hne : D' ≠ D := fun h => (List.nodup_cons.1 e.nd).1 (by rw [h] at hd'; exact hd')
    exact ⟨D', rfl, q1, by simpa using q2, q3, (World.putObj_heap_other hne).trans q4⟩
theorem fn_calls {P : Program} {T : Tab} {O : Orc} (hT : Tok P T) (hO : OrcOk P O) (hm : P.follows .mixedOrders = true) {f : Nat} {fn : Func} {c : Code} (hf : P.funcs[f]? = some fn) (hb : fn.body = some c) (vars : Nat → List Nat)
    {args : List X} {res : X} {rows : Rows} (hn : args.length ≤ fn.ntmps)
    (h : vCode T O fn.ntmps vars c (argsG 0 args) fun e G => (e = .normal ∨ e = .ret) ∧ vRes T fn.results.toList G fun res' rows' => res' = res ∧ rows' = rows) : ∀ (w : World) (vs : List Value) (g : Gh), (∀ b, g.o b = .other ∨ g.o b = .imm) → (∀ b, g.o b ≠ .other → b < w.heap.size) → GR w g.o → All2 (XR w g) vs args →
    Calls P f vs.toArray w fun e w' => ∃ v g', e = .returned v ∧ Fr w w' g.o g'.o ∧ (∀ b, g'.o b ≠ .other → b < w'.heap.size) ∧ XR w' g' v res ∧ ∀ k ty e xs, rows[k]? = some (ty, e, xs) → RowR w' g' k ty e xs := by
  intro w vs g hg hlt hgr hall
  refine callsIn_wide.1 (callsIn_of_wp_marks (F := Fence.wide) (n := 0) hf hb trivial ?_)
  have hvl : vs.length = args.length := hall.1
  have r0 : Rel (look (argsG 0 args)) fn.ntmps { tmps := vs.toArray ++ Array.replicate (fn.ntmps - vs.toArray.size) undef, defers := [] } w g := by
    refine ⟨by simp; omega, rfl, hlt, hgr, fun n => ?_⟩
    cases n with
    | t i =>
      rcases look_argsG_t (args := args) (k := 0) (i := i) with h1 | ⟨x, h1⟩
      · rw [h1]; trivial
      · rw [h1]
        obtain ⟨v, e1, _, e3⟩ := look_argsG hall x h1
        have hi : i < vs.length := (List.getElem?_eq_some_iff.1 e1).1
        have : (vs.toArray ++ Array.replicate (fn.ntmps - vs.toArray.size) undef).getD i undef = v := by
          simp only [Nat.sub_zero] at e1
          simp [Array.getD_eq_getD_getElem?, Array.getElem?_append, hi]
          rw [List.getElem?_eq_getElem hi] at e1
          exact Option.some.inj e1
        show XR w g _ x
        rw [this]
        exact e3
    | row k => rw [look_argsG_other (by simp)]; trivial
    | box k => rw [look_argsG_other (by simp)]; trivial
  have env0 : Env w.heap.size none [] w g := ⟨Nat.le_refl _, fun l hl => by (cases hl), fun d hd => absurd hd (by simp), List.nodup_nil⟩
  refine vCode_ok hT hO hm c h (ro := none) (ds := []) r0 (Fr.refl _ _) env0 fun e G' a' w' g' ds' hq r' f' env' _ => ?_
  obtain ⟨he, hv⟩ := hq
  have key := leaves_marks (P := P) (fn := fn) (R := fun e w' => ∃ v g', e = .returned v ∧ Fr w w' g.o g'.o ∧ (∀ b, g'.o b ≠ .other → b < w'.heap.size) ∧ XR w' g' v res ∧ ∀ k ty e xs, rows[k]? = some (ty, e, xs) → RowR w' g' k ty e xs) ds' r' f' env' fun w' g' r' f' => by
    unfold vRes at hv
    split at hv
    · rename_i x hx
      obtain ⟨hm1, hm2, hv⟩ := hv
      split at hv
      · rename_i rows' hrows
        obtain ⟨rfl, rfl⟩ := hv
        obtain ⟨v, h1, h2⟩ := resX_run hT r' hx
        refine ⟨v, h1, v, g'.ren (resM x), rfl, f'.trans (Fr.ren _ _ _), (r'.ren hm1).tags, ren_xr hm1 h2, fun k ty e xs hk => ?_⟩
        obtain ⟨hh, hmem, hrow⟩ := rowsAt_get hrows hm2 k ty e xs hk
        rw [Nat.zero_add] at hmem
        exact ren_rowr hm1 (fwd_mem hm1 hmem) (r'.row hrow)
      · exact hv.elim
    · exact hv.elim
  rcases he with rfl | rfl
  · exact key
  · exact key
theorem fn_callsM {P : Program} {T : Tab} {O : Orc} (hT : Tok P T) (hO : OrcOk P O) (hm : P.follows .mixedOrders = true) {f : Nat} {fn : Func} {c : Code} (hf : P.funcs[f]? = some fn) (hb : fn.body = some c) (vars : Nat → List Nat)
    {row : Nat × Nat × List SV} {args : List X} {res : X} {rows : Rows} (hn : args.length + 1 ≤ fn.ntmps)
    (h : vCode T O fn.ntmps vars c ((.row 0, .row row.1 row.2.1 row.2.2) :: argsG 0 (.p (.one (.sr 0)) :: args)) fun e G => (e = .normal ∨ e = .ret) ∧ vRes T fn.results.toList G fun res' rows' => res' = res ∧ rows' = rows) : ∀ (w : World) (vs : List Value) (g : Gh), (∀ b, g.o b ≠ .other → b < w.heap.size) → GR w g.o → All2 (XR w g) vs (.p (.one (.sr 0)) :: args) → RowR w g 0 row.1 row.2.1 row.2.2 →
    Calls P f vs.toArray w fun e w' => ∃ v g', e = .returned v ∧ Fr w w' g.o g'.o ∧ (∀ b, g'.o b ≠ .other → b < w'.heap.size) ∧ XR w' g' v res ∧ ∀ k ty e xs, rows[k]? = some (ty, e, xs) → RowR w' g' k ty e xs := by
  intro w vs g hlt hgr hall hrow0
  refine callsIn_wide.1 (callsIn_of_wp_marks (F := Fence.wide) (n := 0) hf hb trivial ?_)
  have hvl : vs.length = args.length + 1 := hall.1
  have r00 : Rel (look (argsG 0 (.p (.one (.sr 0)) :: args))) fn.ntmps { tmps := vs.toArray ++ Array.replicate (fn.ntmps - vs.toArray.size) undef, defers := [] } w g := by
    refine ⟨by simp; omega, rfl, hlt, hgr, fun n => ?_⟩
    cases n with
    | t i =>
      rcases look_argsG_t (args := .p (.one (.sr 0)) :: args) (k := 0) (i := i) with h1 | ⟨x, h1⟩
      · rw [h1]; trivial
      · rw [h1]
        obtain ⟨v, e1, _, e3⟩ := look_argsG hall x h1
        have hi : i < vs.length := (List.getElem?_eq_some_iff.1 e1).1
        have : (vs.toArray ++ Array.replicate (fn.ntmps - vs.toArray.size) undef).getD i undef = v := by
          simp only [Nat.sub_zero] at e1
          simp [Array.getD_eq_getD_getElem?, Array.getElem?_append, hi]
          rw [List.getElem?_eq_getElem hi] at e1
          exact Option.some.inj e1
        show XR w g _ x
        rw [this]
        exact e3
    | row k => rw [look_argsG_other (by simp)]; trivial
    | box k => rw [look_argsG_other (by simp)]; trivial
  have r0 : Rel (look ((.row 0, .row row.1 row.2.1 row.2.2) :: argsG 0 (.p (.one (.sr 0)) :: args))) fn.ntmps { tmps := vs.toArray ++ Array.replicate (fn.ntmps - vs.toArray.size) undef, defers := [] } w g := r00.upd (n := .row 0) hrow0
  have env0 : Env w.heap.size none [] w g := ⟨Nat.le_refl _, fun l hl => by (cases hl), fun d hd => absurd hd (by simp), List.nodup_nil⟩
  refine vCode_ok hT hO hm c h (ro := none) (ds := []) r0 (Fr.refl _ _) env0 fun e G' a' w' g' ds' hq r' f' env' _ => ?_
  obtain ⟨he, hv⟩ := hq
  have key := leaves_marks (P := P) (fn := fn) (R := fun e w' => ∃ v g', e = .returned v ∧ Fr w w' g.o g'.o ∧ (∀ b, g'.o b ≠ .other → b < w'.heap.size) ∧ XR w' g' v res ∧ ∀ k ty e xs, rows[k]? = some (ty, e, xs) → RowR w' g' k ty e xs) ds' r' f' env' fun w' g' r' f' => by
    unfold vRes at hv
    split at hv
    · rename_i x hx
      obtain ⟨hm1, hm2, hv⟩ := hv
      split at hv
      · rename_i rows' hrows
        obtain ⟨rfl, rfl⟩ := hv
        obtain ⟨v, h1, h2⟩ := resX_run hT r' hx
        refine ⟨v, h1, v, g'.ren (resM x), rfl, f'.trans (Fr.ren _ _ _), (r'.ren hm1).tags, ren_xr hm1 h2, fun k ty e xs hk => ?_⟩
        obtain ⟨hh, hmem, hrow⟩ := rowsAt_get hrows hm2 k ty e xs hk
        rw [Nat.zero_add] at hmem
        exact ren_rowr hm1 (fwd_mem hm1 hmem) (r'.row hrow)
      · exact hv.elim
    · exact hv.elim
  rcases he with rfl | rfl
  · exact key
  · exact key
theorem fn_okM {P : Program} {T : Tab} {O : Orc} (hT : Tok P T) (hO : OrcOk P O) (hm : P.follows .mixedOrders = true) {f : Nat} {fn : Func} {c : Code} (hf : P.funcs[f]? = some fn) (hb : fn.body = some c) (hcb : callableB fn = true) (vars : Nat → List Nat)
    {row : Nat × Nat × List SV} {args : List X} {res : X} {rows : Rows} (hn : args.length + 1 ≤ fn.ntmps) (hres : res.all TV.res = true)
    (h : vCode T O fn.ntmps vars c ((.row 0, .row row.1 row.2.1 row.2.2) :: argsG 0 (.p (.one (.sr 0)) :: args)) fun e G => (e = .normal ∨ e = .ret) ∧ vRes T fn.results.toList G fun res' rows' => res' = res ∧ rows' = rows) : CallM P f row args res rows :=
  ⟨callable_of hf hcb, hres, fun w vs g _ hlt hgr hall hrow => fn_callsM hT hO hm hf hb vars hn h w vs g hlt hgr hall hrow⟩
theorem fn_ok {P : Program} {T : Tab} {O : Orc} (hT : Tok P T) (hO : OrcOk P O) (hm : P.follows .mixedOrders = true) {f : Nat} {fn : Func} {c : Code} (hf : P.funcs[f]? = some fn) (hb : fn.body = some c) (hcb : callableB fn = true) (vars : Nat → List Nat)
    {args : List X} {res : X} {rows : Rows} {fr : Bool} (hn : args.length ≤ fn.ntmps) (hres : res.all TV.res = true) (hfr : fr = true → res.all TV.rawR = true ∧ ∀ r ∈ rows, ∀ x ∈ r.2.2, x.isRaw = true)
    (h : vCode T O fn.ntmps vars c (argsG 0 args) fun e G => (e = .normal ∨ e = .ret) ∧ vRes T fn.results.toList G fun res' rows' => res' = res ∧ rows' = rows) : CallOk P f args res rows fr :=
  ⟨callable_of hf hcb, hres, hfr, fn_calls hT hO hm hf hb vars hn h⟩
/-- A function that asks whether its first argument is nil. -/
theorem fn_nil {P : Program} {T : Tab} {O : Orc} (hT : Tok P T) (hO : OrcOk P O) (hm : P.follows .mixedOrders = true) {f : Nat} {fn : Func} {c : Code} (hf : P.funcs[f]? = some fn) (hb : fn.body = some c) (hcb : callableB fn = true) (vars : Nat → List Nat) (ty : Nat)
    {e0 : Nat} {xs : List SV} {args : List X} {res : X} {rows : Rows} {fr : Bool} (hn : args.length + 1 ≤ fn.ntmps) (hres : res.all TV.res = true) (hfr : fr = true → res.all TV.rawR = true ∧ ∀ r ∈ rows, ∀ x ∈ r.2.2, x.isRaw = true)
    (h1 : xs = [] → vCode T O fn.ntmps vars c (argsG 0 (.p (.one (.nl ty 0)) :: args)) fun e G => (e = .normal ∨ e = .ret) ∧ vRes T fn.results.toList G fun res' rows' => res' = res ∧ rows' = rows)
    (h2 : vCode T O fn.ntmps vars c (argsG 0 (.p (.one (.nn e0 xs)) :: args)) fun e G => (e = .normal ∨ e = .ret) ∧ vRes T fn.results.toList G fun res' rows' => res' = res ∧ rows' = rows) :
    CallOk P f (.p (.one (.v (.sl e0 xs))) :: args) res rows fr := by
  refine ⟨callable_of hf hcb, hres, hfr, fun w vs g hg hlt hgr hall => ?_⟩
  cases vs with
  | nil => have := hall.1; simp at this
  | cons v vs =>
    have hv : SVR w g.o v (.sl e0 xs) := hall.head
    by_cases hnil : ∃ n c, v = .slice none n c
    · obtain ⟨n, c', rfl⟩ := hnil
      have hc := SVR.noneCap hv rfl
      have hx : xs = [] ∧ n = 0 := by
        cases hv with
        | nil => exact ⟨rfl, rfl⟩
      obtain ⟨hx1, rfl⟩ := hx
      subst hc
      exact fn_calls hT hO hm hf hb vars (by simpa using hn) (h1 hx1) w _ g hg hlt hgr (All2.cons rfl hall.tail)
    · exact fn_calls hT hO hm hf hb vars (by simpa using hn) h2 w _ g hg hlt hgr (All2.cons ⟨hv, fun n c' e => hnil ⟨n, c', e⟩⟩ hall.tail)
/-! ### a function with a label ahead of its end -/
def GEx.jmp (l : Nat) (J : List (Nm × C) → Prop) (Q : GEx → List (Nm × C) → Prop) : GEx → List (Nm × C) → Prop
  | .goto l', G => l' = l ∧ J G
  | e, G => Q e G
def GEx.nog (Q : GEx → List (Nm × C) → Prop) : GEx → List (Nm × C) → Prop
  | .goto _, _ => False
  | e, G => Q e G
theorem scope_wp {P : Program} {T : Tab} {O : Orc} {nt : Nat} {vars : Nat → List Nat} (hT : Tok P T) (hO : OrcOk P O) (hm : P.follows .mixedOrders = true) {c rest : Code} {l : Nat} {G : List (Nm × C)} {Qg : GEx → List (Nm × C) → Prop} (hl : findLabel c l = some rest)
    (h : vCode T O nt vars c G (GEx.jmp l (fun G' => vCode T O nt vars rest G' (GEx.nog Qg)) Qg)) {n0 : Nat} {ds : List Deferred} {a : Act} {w w0 : World} {g g0 : Gh} {Q : Exit → Act → World → Prop} (r : Rel (look G) nt a w g) (hf : Fr w0 w g0.o g.o) (he : Env n0 none ds w g)
    (hQ : ∀ e G' a' w' g' ds', (∀ l, e ≠ .goto l) → Qg e G' → Rel (look G') nt a' w' g' → Fr w0 w' g0.o g'.o → Env n0 none ds' w' g' → Q e.ex (shA ds' a') w') : (Code.scope c).wpIn Fence.wide 0 P Q (shA ds a) w := by
  refine wpIn_wide.2 (wp_scope_jumps l (fun a w => ∃ a2 ds2 G g, a = shA ds2 a2 ∧ vCode T O nt vars rest G (GEx.nog Qg) ∧ Rel (look G) nt a2 w g ∧ Fr w0 w g0.o g.o ∧ Env n0 none ds2 w g) (fun _ _ => 0) hl ?_ ?_)
  · refine (wpIn_wide (n := 0)).1 (vCode_ok hT hO hm c h (ro := none) r hf he fun e G' a' w' g' ds' hq r' f' e' _ => ?_)
    cases e with
    | goto l' => exact ⟨hq.1, a', ds', G', g', rfl, hq.2, r', f', e'⟩
    | normal => exact hQ .normal G' a' w' g' ds' (by simp) hq r' f' e'
    | exit id => exact hQ (.exit id) G' a' w' g' ds' (by simp) hq r' f' e'
    | ret => exact hQ .ret G' a' w' g' ds' (by simp) hq r' f' e'
    | panic v => exact hQ (.panic v) G' a' w' g' ds' (by simp) hq r' f' e'
  · rintro _ w1 ⟨a1, ds1, G1, g1, rfl, hv, r1, f1, e1⟩
    refine (wpIn_wide (n := 0)).1 (vCode_ok hT hO hm rest hv (ro := none) r1 f1 e1 fun e G' a' w' g' ds' hq r' f' e' _ => ?_)
    cases e with
    | goto l' => exact hq.elim
    | normal => exact hQ .normal G' a' w' g' ds' (by simp) hq r' f' e'
    | exit id => exact hQ (.exit id) G' a' w' g' ds' (by simp) hq r' f' e'
    | ret => exact hQ .ret G' a' w' g' ds' (by simp) hq r' f' e'
    | panic v => exact hQ (.panic v) G' a' w' g' ds' (by simp) hq r' f' e'
def lentL (n : Nat) (bs : Boxes) : List (Nm × C) := match bs with
  | [] => []
  | (ty, xs) :: r => (.box n, .box ty xs) :: lentL (n + 1) r
theorem look_lentL : ∀ {bs : Boxes} {n : Nat} {G : List (Nm × C)} {k : Nat} {ty xs}, look (lentL n bs ++ G) (.box k) = .box ty xs → look G (.box k) = .none → n ≤ k ∧ bs[k - n]? = some (ty, xs)
  | [], n, G, k, ty, xs, h, h0 => by simp [lentL] at h; rw [h0] at h; cases h
  | (ty', xs') :: r, n, G, k, ty, xs, h, h0 => by
    simp only [lentL, List.cons_append, look] at h
    by_cases e : (Nm.box k) = Nm.box n
    · rw [if_pos e] at h; cases e; cases h; simp
    · rw [if_neg e] at h
      obtain ⟨h1, h2⟩ := look_lentL h h0
      refine ⟨by omega, ?_⟩
      obtain ⟨j, hj⟩ : ∃ j, k - n = j + 1 := ⟨k - n - 1, by omega⟩
      rw [hj, List.getElem?_cons_succ, ← h2]; congr 1; omega
theorem look_lentL_box : ∀ {bs : Boxes} {n : Nat} {G : List (Nm × C)} {k : Nat}, look (lentL n bs ++ G) (.box k) = look G (.box k) ∨ ∃ ty xs, look (lentL n bs ++ G) (.box k) = .box ty xs
  | [], n, G, k => .inl rfl
  | (ty', xs') :: r, n, G, k => by
    simp only [lentL, List.cons_append, look]
    by_cases e : (Nm.box k) = Nm.box n
    · rw [if_pos e]; exact .inr ⟨_, _, rfl⟩
    · rw [if_neg e]; exact look_lentL_box
theorem look_lentL_o : ∀ {bs : Boxes} {n : Nat} {G : List (Nm × C)} {m : Nm}, (∀ k, m ≠ .box k) → look (lentL n bs ++ G) m = look G m
  | [], n, G, m, h => rfl
  | (ty', xs') :: r, n, G, m, h => by
    simp only [lentL, List.cons_append, look]
    rw [if_neg (h n)]; exact look_lentL_o h
def endC (Γ : Nm → C) : TV → Option (TV × List Nat)
  | .pr h off => some (.pr h off, [])
  | .dead => some (.dead, [])
  | x => (frzT Γ x).map fun p => (.v p.1, p.2)
def endL (Γ : Nm → C) : List TV → Option (List TV × List Nat)
  | [] => some ([], [])
  | x :: r => match endC Γ x, endL Γ r with
    | some (y, h1), some (ys, h2) => some (y :: ys, h1 ++ h2)
    | _, _ => none
def isPr (k : Nat) : C → Bool
  | .t (.p (.one (.pr h 0))) => decide (h = k)
  | _ => false
def isPrX (k : Nat) : List X → Bool
  | .p (.one (.pr h 0)) :: _ => decide (h = k)
  | _ => false
/-- The lent variables at the end: their contents, frozen; keep: is something told of it? Its pointer is the parameter of its number. -/
def endB (Γ : Nm → C) (args : List X) (W : List Nat) : Nat → List Bool → Option (Boxes × List Nat)
  | _, [] => some ([], [])
  | k, false :: r => (endB Γ args W (k + 1) r).map fun p => ((0, []) :: p.1, p.2)
  | k, true :: r => match isPrX k (args.drop k), W.contains k, isPr k (Γ (.t k)) with
    | true, false, true => match Γ (.box k) with
      | .box ty xs => match endL Γ xs, endB Γ args W (k + 1) r with
        | some (ys, h1), some (bs, h2) => some ((ty, ys) :: bs, h1 ++ h2)
        | _, _ => none
      | _ => none
    | _, _, _ => none
def endP (Γ : Nm → C) : PX → Option (PX × List Nat)
  | .one x => (frzT Γ x).map fun p => (.one (.v p.1), p.2)
  | .agg xs => (frzL Γ xs).map fun p => (.agg (p.1.map .v), p.2)
def endPs (Γ : Nm → C) : List PX → Option (List PX × List Nat)
  | [] => some ([], [])
  | x :: r => match endP Γ x, endPs Γ r with
    | some (y, h1), some (ys, h2) => some (y :: ys, h1 ++ h2)
    | _, _ => none
def endX (Γ : Nm → C) : X → Option (X × List Nat)
  | .p x => (endP Γ x).map fun p => (.p p.1, p.2)
  | .tup xs => (endPs Γ xs).map fun p => (.tup p.1, p.2)
def vEnd (T : Tab) (rs : List ResultVar) (args : List X) (W : List Nat) (keep : List Bool) (G : List (Nm × C)) (K : X → Boxes → Prop) : Prop :=
  match resX T (look G) rs with
  | some x => match endX (look G) x, endB (look G) args W 0 keep with
    | some (y, _), some (bs, _) => K y bs
    | _, _ => False
  | none => False
section
variable {Γ : Nm → C} {nt : Nat} {a : Act} {w : World} {g : Gh} {hs : List Nat}
theorem endC_rel (r : Rel Γ nt a w g) {u : Value} {x y hs0} (h : endC Γ x = some (y, hs0)) (hsub : ∀ k ∈ hs0, k ∈ hs) (hx : TVR w g u x) : TVR w (g.frz hs) u y := by
  have key : ∀ x : TV, (frzT Γ x).map (fun p => (TV.v p.1, p.2)) = some (y, hs0) → TVR w g u x → TVR w (g.frz hs) u y := fun x h hx => by
    obtain ⟨⟨s, hs1⟩, h1, h2⟩ := Option.map_eq_some_iff.1 h
    cases h2
    exact frzT_rel r h1 (fun _ _ => rfl) hsub hx
  unfold endC at h
  split at h
  · cases h; exact hx
  · cases h; trivial
  · exact key _ h hx
theorem endL_rel (r : Rel Γ nt a w g) : ∀ {us : List Value} {xs ys hs0}, endL Γ xs = some (ys, hs0) → (∀ k ∈ hs0, k ∈ hs) → All2 (TVR w g) us xs → All2 (TVR w (g.frz hs)) us ys := by
  intro us xs
  induction xs generalizing us with
  | nil =>
    intro ys hs0 h _ ha
    simp [endL] at h
    obtain ⟨rfl, rfl⟩ := h
    cases us with
    | nil => exact .nil
    | cons u us => have := ha.1; simp at this
  | cons x xs ih =>
    intro ys hs0 h hsub ha
    cases us with
    | nil => have := ha.1; simp at this
    | cons u us =>
      simp only [endL] at h
      split at h
      · rename_i y h1 ys' h2 e1 e2
        cases h
        exact .cons (endC_rel r e1 (fun k hk => hsub k (by simp [hk])) ha.head) (ih e2 (fun k hk => hsub k (by simp [hk])) ha.tail)
      · cases h
theorem endP_rel (r : Rel Γ nt a w g) {u : Value} {x y hs0} (h : endP Γ x = some (y, hs0)) (hsub : ∀ k ∈ hs0, k ∈ hs) (hx : PXR w g u x) : PXR w (g.frz hs) u y ∧ y.all TV.isV = true := by
  unfold endP at h
  split at h
  · obtain ⟨⟨s, hs1⟩, h1, h2⟩ := Option.map_eq_some_iff.1 h
    cases h2
    exact ⟨frzT_rel r h1 (fun _ _ => rfl) hsub hx, rfl⟩
  · obtain ⟨⟨s, hs1⟩, h1, h2⟩ := Option.map_eq_some_iff.1 h
    cases h2
    obtain ⟨cs, hv, hall⟩ := hx
    refine ⟨⟨cs, hv, (frzL_rel r h1 (fun _ _ => rfl) hsub hall).svTv⟩, ?_⟩
    simp only [PX.all, List.all_map, List.all_eq_true]
    intro x _; rfl
theorem endPs_rel (r : Rel Γ nt a w g) : ∀ {us : List Value} {xs ys hs0}, endPs Γ xs = some (ys, hs0) → (∀ k ∈ hs0, k ∈ hs) → All2 (PXR w g) us xs → All2 (PXR w (g.frz hs)) us ys ∧ ys.all (fun p => p.all TV.isV) = true := by
  intro us xs
  induction xs generalizing us with
  | nil =>
    intro ys hs0 h _ ha
    simp [endPs] at h
    obtain ⟨rfl, rfl⟩ := h
    cases us with
    | nil => exact ⟨.nil, rfl⟩
    | cons u us => have := ha.1; simp at this
  | cons x xs ih =>
    intro ys hs0 h hsub ha
    cases us with
    | nil => have := ha.1; simp at this
    | cons u us =>
      simp only [endPs] at h
      split at h
      · rename_i y h1 ys' h2 e1 e2
        cases h
        obtain ⟨q1, q2⟩ := endP_rel r e1 (fun k hk => hsub k (by simp [hk])) ha.head
        obtain ⟨q3, q4⟩ := ih e2 (fun k hk => hsub k (by simp [hk])) ha.tail
        exact ⟨.cons q1 q3, by simp [q2, q4]⟩
      · cases h
theorem endX_rel (r : Rel Γ nt a w g) {u : Value} {x y hs0} (h : endX Γ x = some (y, hs0)) (hsub : ∀ k ∈ hs0, k ∈ hs) (hx : XR w g u x) : XR w (g.frz hs) u y ∧ y.all TV.isV = true := by
  unfold endX at h
  split at h
  · obtain ⟨⟨s, hs1⟩, h1, h2⟩ := Option.map_eq_some_iff.1 h
    cases h2
    exact endP_rel r h1 hsub hx
  · obtain ⟨⟨s, hs1⟩, h1, h2⟩ := Option.map_eq_some_iff.1 h
    cases h2
    obtain ⟨vs, hv, hall⟩ := hx
    obtain ⟨q1, q2⟩ := endPs_rel r h1 hsub hall
    exact ⟨⟨vs, hv, q1⟩, q2⟩
theorem endB_get {args : List X} {W : List Nat} : ∀ {keep : List Bool} {n bs hs}, endB Γ args W n keep = some (bs, hs) → bs.length = keep.length ∧ ∀ (j : Nat) ty ys, bs[j]? = some (ty, ys) → ys ≠ [] →
    ∃ xs hs1, isPrX (n + j) (args.drop (n + j)) = true ∧ W.contains (n + j) = false ∧ isPr (n + j) (Γ (.t (n + j))) = true ∧ Γ (.box (n + j)) = .box ty xs ∧ endL Γ xs = some (ys, hs1) ∧ ∀ k ∈ hs1, k ∈ hs
  | [], n, bs, hs, h => by simp [endB] at h; obtain ⟨rfl, rfl⟩ := h; exact ⟨rfl, fun j ty ys hj => by simp at hj⟩
  | false :: r, n, bs, hs, h => by
    simp only [endB] at h
    obtain ⟨⟨bs', hs'⟩, h1, h2⟩ := Option.map_eq_some_iff.1 h
    cases h2
    obtain ⟨q1, q2⟩ := endB_get h1
    refine ⟨by simp [q1], fun j ty ys hj hne => ?_⟩
    cases j with
    | zero => simp at hj; exact absurd hj.2 hne
    | succ j =>
      have := q2 j ty ys (by simpa using hj) hne
      rwa [show n + 1 + j = n + (j + 1) by omega] at this
  | true :: r, n, bs, hs, h => by
    simp only [endB] at h
    split at h
    · rename_i e1 e2 e3
      split at h
      · rename_i ty0 xs hb
        split at h
        · rename_i ys0 h1 bs' h2 p1 p2
          cases h
          obtain ⟨q1, q2⟩ := endB_get p2
          refine ⟨by simp [q1], fun j ty ys hj hne => ?_⟩
          cases j with
          | zero => simp at hj; obtain ⟨rfl, rfl⟩ := hj; exact ⟨xs, h1, e1, e2, e3, hb, p1, fun k hk => by simp [hk]⟩
          | succ j =>
            obtain ⟨xs', hs1, z1, z2, z3, z4, z5, z6⟩ := q2 j ty ys (by simpa using hj) hne
            rw [show n + 1 + j = n + (j + 1) by omega] at z1 z2 z3 z4
            exact ⟨xs', hs1, z1, z2, z3, z4, z5, fun k hk => by simp [z6 k hk]⟩
        · cases h
      · cases h
    · cases h
end
/-- How a function ends that is lent own variables. -/
def Kb (T : Tab) (rs : List ResultVar) (args : List X) (W : List Nat) (out : Out) (e : GEx) (G : List (Nm × C)) : Prop :=
  match e with
  | .normal | .ret => match out with
    | .ret res bs => vEnd T rs args W (bs.map fun b => !b.2.isEmpty) G fun res' bs' => res' = res ∧ bs'.map (fun b => b.2) = bs.map (fun b => b.2) ∧ bs'.map (fun b => if b.2.isEmpty then 0 else b.1) = bs.map (fun b => if b.2.isEmpty then 0 else b.1)
    | .pan _ => False
  | .panic v => match out with
    | .pan u => v = u
    | .ret _ _ => False
  | .exit _ | .goto _ => False
theorem leaves_marksP {P : Program} {fn : Func} {nt : Nat} {tmps : Array Value} {R : Ending → World → Prop} {ch : List PanicEntry} {a : Act} {w0 : World} {g0 : Gh} : ∀ (ds : List Deferred) {w : World} {g : Gh}, Rel (look []) nt a w g → Fr w0 w g0.o g.o → Env w0.heap.size none ds w g →
    (∀ w g, Rel (look []) nt a w g → Fr w0 w g0.o g.o → R (.panicked ch) w) → LeavesInM Fence.wide 0 P fn tmps R ds (.panicking ch) w
  | [], w, g, r, f, e, h => h w g r f
  | d :: ds, w, g, r, f, e, h => by
    obtain ⟨D, rfl, h1, h2, h3, h4⟩ := e.hd d (by simp)
    refine ⟨by simp, .inl ⟨D, _, rfl, run_takeDeferred h4, leaves_marksP ds (r.putO h3 _) (f.putO h1 _) ?_ h⟩⟩
    refine ⟨by simpa using e.hn, fun l hl => (by cases hl), fun d' hd' => ?_, (List.nodup_cons.1 e.nd).2⟩
    obtain ⟨D', rfl, q1, q2, q3, q4⟩ := e.hd d' (by simp [hd'])
    have hne : D' ≠ D := fun h => (List.nodup_cons.1 e.nd).1 (by rw [h] at hd'; exact hd')
    exact ⟨D', rfl, q1, by simpa using q2, q3, (World.putObj_heap_other hne).trans q4⟩
theorem isPrX_at {k : Nat} {args : List X} (h : isPrX k (args.drop k) = true) : args[k]? = some (.p (.one (.pr k 0))) := by
  unfold isPrX at h
  split at h
  · rename_i h' r e
    simp at h; subst h
    have : args[h']? = (args.drop h')[0]? := by simp
    rw [this, e]; rfl
  · cases h
theorem isPr_at {k : Nat} {c : C} (h : isPr k c = true) : c = .t (.p (.one (.pr k 0))) := by
  unfold isPr at h
  split at h
  · simp at h; subst h; rfl
  · cases h
theorem fn_callsB {P : Program} {T : Tab} {O : Orc} (hT : Tok P T) (hO : OrcOk P O) (hm : P.follows .mixedOrders = true) {f : Nat} {fn : Func} {c : Code} (hf : P.funcs[f]? = some fn) (hb : fn.body = some c) (vars : Nat → List Nat)
    {bs0 : Boxes} {args : List X} {out : Out} (hn : args.length ≤ fn.ntmps)
    (h : vCode T O fn.ntmps vars c (lentL 0 bs0 ++ argsG 0 args) (Kb T fn.results.toList args (wrs c) out)) : ∀ (w : World) (vs : List Value) (g : Gh), (∀ b, g.o b ≠ .other → b < w.heap.size) → GR w g.o → All2 (XR w g) vs args → (∀ k ty xs, bs0[k]? = some (ty, xs) → BoxR w g k ty xs) →
    Calls P f vs.toArray w fun e w' => out.post w g e w' := by
  intro w vs g hlt hgr hall hbx
  refine callsIn_wide.1 (callsIn_of_wp_marks (F := Fence.wide) (n := 0) hf hb trivial ?_)
  have hvl : vs.length = args.length := hall.1
  have htm : ∀ i v, vs[i]? = some v → (vs.toArray ++ Array.replicate (fn.ntmps - vs.toArray.size) undef).getD i undef = v := fun i v e1 => by
    have hi : i < vs.length := (List.getElem?_eq_some_iff.1 e1).1
    simp [Array.getD_eq_getD_getElem?, Array.getElem?_append, hi]
    rw [List.getElem?_eq_getElem hi] at e1
    exact Option.some.inj e1
  have r0 : Rel (look (lentL 0 bs0 ++ argsG 0 args)) fn.ntmps { tmps := vs.toArray ++ Array.replicate (fn.ntmps - vs.toArray.size) undef, defers := [] } w g := by
    refine ⟨by simp; omega, rfl, hlt, hgr, fun n => ?_⟩
    cases n with
    | t i =>
      rw [look_lentL_o (by simp)]
      rcases look_argsG_t (args := args) (k := 0) (i := i) with h1 | ⟨x, h1⟩
      · rw [h1]; trivial
      · rw [h1]
        obtain ⟨v, e1, _, e3⟩ := look_argsG hall x h1
        show XR w g _ x
        rw [htm i v (by simpa using e1)]
        exact e3
    | row k => rw [look_lentL_o (by simp), look_argsG_other (by simp)]; trivial
    | box k =>
      have h0 : look (argsG 0 args) (.box k) = .none := look_argsG_other (by simp)
      rcases look_lentL_box (bs := bs0) (n := 0) (G := argsG 0 args) (k := k) with h1 | ⟨ty, xs, h1⟩
      · rw [h1, h0]; trivial
      · rw [h1]
        obtain ⟨_, h3⟩ := look_lentL h1 h0
        exact hbx k ty xs (by simpa using h3)
  have env0 : Env w.heap.size none [] w g := ⟨Nat.le_refl _, fun l hl => by (cases hl), fun d hd => absurd hd (by simp), List.nodup_nil⟩
  refine vCode_ok hT hO hm c h (ro := none) (ds := []) r0 (Fr.refl _ _) env0 fun e G' a' w' g' ds' hq r' f' env' hkeep => ?_
  have hend : (∃ res bs, out = .ret res bs ∧ vEnd T fn.results.toList args (wrs c) (bs.map fun b => !b.2.isEmpty) G' fun res' bs' => res' = res ∧ bs'.map (fun b => b.2) = bs.map (fun b => b.2) ∧ bs'.map (fun b => if b.2.isEmpty then 0 else b.1) = bs.map (fun b => if b.2.isEmpty then 0 else b.1)) →
      LeavesInM Fence.wide 0 P fn a'.tmps (fun e w' => out.post w g e w') ds' .returning w' := by
    rintro ⟨res, bs, rfl, hv⟩
    refine leaves_marks (P := P) (fn := fn) ds' r' f' env' fun w' g' r' f' => ?_
    unfold vEnd at hv
    split at hv
    · rename_i x hx
      split at hv
      · rename_i y h1 bs' h2 ex eb
        obtain ⟨rfl, e1, e2⟩ := hv
        obtain ⟨v, hv1, hv2⟩ := resX_run hT r' hx
        obtain ⟨x1, x2⟩ := endX_rel (hs := h1 ++ h2) r' ex (fun k hk => by simp [hk]) hv2
        refine ⟨v, hv1, v, g'.frz (h1 ++ h2), rfl, f'.trans (Fr.frz _ _ _), (r'.frz _).tags, x1, fun k ty ys hk hne => ?_⟩
        have hk' : bs'[k]? = some (ty, ys) := by
          have q1 := congrArg (·[k]?) e1
          have q2 := congrArg (·[k]?) e2
          simp only [List.getElem?_map, hk, Option.map_some] at q1 q2
          cases hb' : bs'[k]? with
          | none => simp [hb'] at q1
          | some b =>
            simp only [hb', Option.map_some, Option.some.injEq] at q1 q2
            obtain ⟨b1, b2⟩ := b
            simp only at q1 q2
            subst q1
            have hne' : b2.isEmpty = false := by cases b2 with | nil => exact absurd rfl hne | cons _ _ => rfl
            simp [hne'] at q2
            rw [q2]
        obtain ⟨xs, hs1, z1, z2, z3, z4, z5, z6⟩ := (endB_get eb).2 k ty ys hk' hne
        simp only [Nat.zero_add] at z1 z2 z3 z4
        have harg := isPrX_at z1
        have htk := isPr_at z3
        have hvk : ∃ v, vs[k]? = some v ∧ v = .pointer (some ⟨g.bk k, 0, none⟩) := by
          have hkl : k < vs.length := by rw [hvl]; exact (List.getElem?_eq_some_iff.1 harg).1
          exact ⟨vs[k], List.getElem?_eq_getElem hkl, hall.2 k _ _ (List.getElem?_eq_getElem hkl) harg⟩
        obtain ⟨v0, hv0, hv0'⟩ := hvk
        have hnow : a'.tmps.getD k undef = .pointer (some ⟨g'.bk k, 0, none⟩) := r'.tmp (i := k) htk
        have hwas := hkeep k (by simpa using z2)
        rw [hnow, show Act.tmps { tmps := vs.toArray ++ Array.replicate (fn.ntmps - vs.toArray.size) undef, defers := ([] : List Deferred) } = vs.toArray ++ Array.replicate (fn.ntmps - vs.toArray.size) undef from rfl, htm k v0 hv0, hv0'] at hwas
        have hbk : g'.bk k = g.bk k := by
          simp only [Value.pointer.injEq, Option.some.injEq, Addr.mk.injEq, and_true] at hwas
          exact hwas
        obtain ⟨cur, p1, p2, p3⟩ := r'.box (h := k) z4
        exact ⟨⟨cur, p1, by show (g'.frz _).o (g'.bk k) = _; simp [Gh.frz, p2], endL_rel r' z5 (fun j hj => by simp [z6 j hj]) p3⟩, hbk⟩
      · exact hv.elim
    · exact hv.elim
  unfold Kb at hq
  split at hq
  · cases out with
    | ret res bs => exact hend ⟨res, bs, rfl, hq⟩
    | pan v => exact hq.elim
  · cases out with
    | ret res bs => exact hend ⟨res, bs, rfl, hq⟩
    | pan v => exact hq.elim
  · rename_i v
    cases out with
    | ret res bs => exact hq.elim
    | pan u =>
      cases hq
      exact leaves_marksP (P := P) (fn := fn) ds' (a := a') (nt := fn.ntmps) ⟨r'.size, r'.df, r'.tags, r'.gl, fun n => by cases n <;> trivial⟩ f' env' fun w' g' r' f' => ⟨rfl, _, f'⟩
  · exact hq.elim
  · exact hq.elim
theorem fn_okB {P : Program} {T : Tab} {O : Orc} (hT : Tok P T) (hO : OrcOk P O) (hm : P.follows .mixedOrders = true) {f : Nat} {fn : Func} {c : Code} (hf : P.funcs[f]? = some fn) (hb : fn.body = some c) (hcb : callableB fn = true) (vars : Nat → List Nat)
    {bs0 : Boxes} {args : List X} {out : Out} (hn : args.length ≤ fn.ntmps) (hok : out.ok bs0.length)
    (h : vCode T O fn.ntmps vars c (lentL 0 bs0 ++ argsG 0 args) (Kb T fn.results.toList args (wrs c) out)) : CallB P f bs0 args out :=
  ⟨callable_of hf hcb, hok, fun w vs g _ hlt hgr hall hbx => fn_callsB hT hO hm hf hb vars hn h w vs g hlt hgr hall hbx⟩
end Go.Proofs.YtdpflafjfkooeaaGreatDoorG
/- G14b: functions that are lent own variables together with the own rows in them. -/
namespace Go.Proofs.YtdpflafjfkooeaaGreatDoorG
open Go Go.RowKit
set_option linter.unusedVariables false
set_option linter.unusedSimpArgs false
def rowsL : RowL → List (Nm × C)
  | [] => []
  | (k, ty, e, xs) :: r => (.row k, .row ty e xs) :: rowsL r
theorem look_rowsL : ∀ {rs : RowL} {G : List (Nm × C)} {n : Nm}, look (rowsL rs ++ G) n = look G n ∨ ∃ x ∈ rs, n = .row x.1 ∧ look (rowsL rs ++ G) n = .row x.2.1 x.2.2.1 x.2.2.2
  | [], G, n => .inl rfl
  | (k, ty, e, xs) :: r, G, n => by
    simp only [rowsL, List.cons_append, look]
    by_cases h : n = .row k
    · subst h; exact .inr ⟨_, List.mem_cons_self .., rfl, by simp⟩
    · rw [if_neg h]
      rcases look_rowsL (rs := r) (G := G) (n := n) with q | ⟨x, q1, q2, q3⟩
      · exact .inl q
      · exact .inr ⟨x, List.mem_cons_of_mem _ q1, q2, q3⟩
def boxesEnd (args : List X) (W : List Nat) (G : List (Nm × C)) : Nat → Boxes → Prop
  | _, [] => True
  | n, (ty, xs) :: r => (xs = [] ∨ (isPrX n (args.drop n) = true ∧ W.contains n = false ∧ isPr n (look G (.t n)) = true ∧ look G (.box n) = .box ty xs)) ∧ boxesEnd args W G (n + 1) r
def rowsEnd (G : List (Nm × C)) : RowL → Prop
  | [] => True
  | (k, ty, e, xs) :: r => look G (.row k) = .row ty e xs ∧ rowsEnd G r
theorem boxesEnd_get {args : List X} {W : List Nat} {G : List (Nm × C)} : ∀ {bs : Boxes} {n : Nat}, boxesEnd args W G n bs → ∀ j ty xs, bs[j]? = some (ty, xs) → xs ≠ [] → isPrX (n + j) (args.drop (n + j)) = true ∧ W.contains (n + j) = false ∧ isPr (n + j) (look G (.t (n + j))) = true ∧ look G (.box (n + j)) = .box ty xs
  | [], n, _, j, ty, xs, hj, _ => by simp at hj
  | (ty', xs') :: r, n, h, 0, ty, xs, hj, hne => by
    simp at hj
    obtain ⟨rfl, rfl⟩ := hj
    exact h.1.resolve_left hne
  | (ty', xs') :: r, n, h, j + 1, ty, xs, hj, hne => by
    have := boxesEnd_get (bs := r) h.2 j ty xs (by simpa using hj) hne
    rwa [show n + 1 + j = n + (j + 1) by omega] at this
theorem rowsEnd_get {G : List (Nm × C)} : ∀ {rs : RowL}, rowsEnd G rs → ∀ x ∈ rs, look G (.row x.1) = .row x.2.1 x.2.2.1 x.2.2.2
  | [], _, x, hx => by simp at hx
  | (k, ty, e, xs) :: r, h, x, hx => by
    rcases List.mem_cons.1 hx with rfl | hx
    · exact h.1
    · exact rowsEnd_get h.2 x hx
/-- How a function ends that is lent own variables with own rows. -/
def endR (T : Tab) (rs : List ResultVar) (args : List X) (W : List Nat) (G : List (Nm × C)) (res : X) (bs : Boxes) (rws : RowL) : Prop :=
  resX T (look G) rs = some res ∧ boxesEnd args W G 0 bs ∧ rowsEnd G rws
def KbR (T : Tab) (rs : List ResultVar) (args : List X) (W : List Nat) (out : OutR) (e : GEx) (G : List (Nm × C)) : Prop :=
  match e with
  | .normal | .ret => match out with
    | .ret res bs rws => endR T rs args W G res bs rws
    | .pan _ => False
  | .panic v => match out with
    | .pan u => v = u
    | .ret _ _ _ => False
  | .exit _ | .goto _ => False
theorem fn_callsR {P : Program} {T : Tab} {O : Orc} (hT : Tok P T) (hO : OrcOk P O) (hm : P.follows .mixedOrders = true) {f : Nat} {fn : Func} {c : Code} (hf : P.funcs[f]? = some fn) (hb : fn.body = some c) (vars : Nat → List Nat)
    {bs0 : Boxes} {rs0 : RowL} {args : List X} {out : OutR} (hn : args.length ≤ fn.ntmps)
    (h : vCode T O fn.ntmps vars c (lentL 0 bs0 ++ (rowsL rs0 ++ argsG 0 args)) (KbR T fn.results.toList args (wrs c) out)) : ∀ (w : World) (vs : List Value) (g : Gh), (∀ b, g.o b ≠ .other → b < w.heap.size) → GR w g.o → All2 (XR w g) vs args → (∀ k ty xs, bs0[k]? = some (ty, xs) → BoxR w g k ty xs) → (∀ x ∈ rs0, RowR w g x.1 x.2.1 x.2.2.1 x.2.2.2) →
    Calls P f vs.toArray w fun e w' => out.post w g e w' := by
  intro w vs g hlt hgr hall hbx hrw
  refine callsIn_wide.1 (callsIn_of_wp_marks (F := Fence.wide) (n := 0) hf hb trivial ?_)
  have hvl : vs.length = args.length := hall.1
  have htm : ∀ i v, vs[i]? = some v → (vs.toArray ++ Array.replicate (fn.ntmps - vs.toArray.size) undef).getD i undef = v := fun i v e1 => by
    have hi : i < vs.length := (List.getElem?_eq_some_iff.1 e1).1
    simp [Array.getD_eq_getD_getElem?, Array.getElem?_append, hi]
    rw [List.getElem?_eq_getElem hi] at e1
    exact Option.some.inj e1
  have r0 : Rel (look (lentL 0 bs0 ++ (rowsL rs0 ++ argsG 0 args))) fn.ntmps { tmps := vs.toArray ++ Array.replicate (fn.ntmps - vs.toArray.size) undef, defers := [] } w g := by
    refine ⟨by simp; omega, rfl, hlt, hgr, fun n => ?_⟩
    cases n with
    | t i =>
      rw [look_lentL_o (by simp)]
      rcases look_rowsL (rs := rs0) (G := argsG 0 args) (n := .t i) with q | ⟨x, _, q, _⟩
      case inr => cases q
      rw [q]
      rcases look_argsG_t (args := args) (k := 0) (i := i) with h1 | ⟨x, h1⟩
      · rw [h1]; trivial
      · rw [h1]
        obtain ⟨v, e1, _, e3⟩ := look_argsG hall x h1
        show XR w g _ x
        rw [htm i v (by simpa using e1)]
        exact e3
    | row k =>
      rw [look_lentL_o (by simp)]
      rcases look_rowsL (rs := rs0) (G := argsG 0 args) (n := .row k) with q | ⟨x, q1, q2, q3⟩
      · rw [q, look_argsG_other (by simp)]; trivial
      · rw [q3]
        cases q2
        exact hrw x q1
    | box k =>
      have h0 : look (rowsL rs0 ++ argsG 0 args) (.box k) = .none := by
        rcases look_rowsL (rs := rs0) (G := argsG 0 args) (n := .box k) with q | ⟨x, _, q, _⟩
        · rw [q]; exact look_argsG_other (by simp)
        · cases q
      rcases look_lentL_box (bs := bs0) (n := 0) (G := rowsL rs0 ++ argsG 0 args) (k := k) with h1 | ⟨ty, xs, h1⟩
      · rw [h1, h0]; trivial
      · rw [h1]
        obtain ⟨_, h3⟩ := look_lentL h1 h0
        exact hbx k ty xs (by simpa using h3)
  have env0 : Env w.heap.size none [] w g := ⟨Nat.le_refl _, fun l hl => by (cases hl), fun d hd => absurd hd (by simp), List.nodup_nil⟩
  refine vCode_ok hT hO hm c h (ro := none) (ds := []) r0 (Fr.refl _ _) env0 fun e G' a' w' g' ds' hq r' f' env' hkeep => ?_
  have hend : (∃ res bs rws, out = .ret res bs rws ∧ endR T fn.results.toList args (wrs c) G' res bs rws) →
      LeavesInM Fence.wide 0 P fn a'.tmps (fun e w' => out.post w g e w') ds' .returning w' := by
    rintro ⟨res, bs, rws, rfl, hx, hbE, hrE⟩
    refine leaves_marks (P := P) (fn := fn) ds' r' f' env' fun w' g' r' f' => ?_
    obtain ⟨v, hv1, hv2⟩ := resX_run hT r' hx
    refine ⟨v, hv1, v, g', rfl, f', r'.tags, hv2, fun k ty ys hk hne => ?_, fun x hx => ?_⟩
    · obtain ⟨z1, z2, z3, z4⟩ := boxesEnd_get hbE k ty ys hk hne
      simp only [Nat.zero_add] at z1 z2 z3 z4
      have harg := isPrX_at z1
      have htk := isPr_at z3
      have hvk : ∃ v, vs[k]? = some v ∧ v = .pointer (some ⟨g.bk k, 0, none⟩) := by
        have hkl : k < vs.length := by rw [hvl]; exact (List.getElem?_eq_some_iff.1 harg).1
        exact ⟨vs[k], List.getElem?_eq_getElem hkl, hall.2 k _ _ (List.getElem?_eq_getElem hkl) harg⟩
      obtain ⟨v0, hv0, hv0'⟩ := hvk
      have hnow : a'.tmps.getD k undef = .pointer (some ⟨g'.bk k, 0, none⟩) := r'.tmp (i := k) htk
      have hwas := hkeep k (by simpa using z2)
      rw [hnow, show Act.tmps { tmps := vs.toArray ++ Array.replicate (fn.ntmps - vs.toArray.size) undef, defers := ([] : List Deferred) } = vs.toArray ++ Array.replicate (fn.ntmps - vs.toArray.size) undef from rfl, htm k v0 hv0, hv0'] at hwas
      have hbk : g'.bk k = g.bk k := by
        simp only [Value.pointer.injEq, Option.some.injEq, Addr.mk.injEq, and_true] at hwas
        exact hwas
      exact ⟨r'.box (h := k) z4, hbk⟩
    · exact r'.row (rowsEnd_get hrE x hx)
  unfold KbR at hq
  split at hq
  · cases out with
    | ret res bs rws => exact hend ⟨res, bs, rws, rfl, hq⟩
    | pan v => exact hq.elim
  · cases out with
    | ret res bs rws => exact hend ⟨res, bs, rws, rfl, hq⟩
    | pan v => exact hq.elim
  · rename_i v
    cases out with
    | ret res bs rws => exact hq.elim
    | pan u =>
      cases hq
      exact leaves_marksP (P := P) (fn := fn) ds' (a := a') (nt := fn.ntmps) ⟨r'.size, r'.df, r'.tags, r'.gl, fun n => by cases n <;> trivial⟩ f' env' fun w' g' r' f' => ⟨rfl, _, f'⟩
  · exact hq.elim
  · exact hq.elim
theorem fn_okR' {P : Program} {T : Tab} {O : Orc} (hT : Tok P T) (hO : OrcOk P O) (hm : P.follows .mixedOrders = true) {f : Nat} {fn : Func} {c : Code} (hf : P.funcs[f]? = some fn) (hb : fn.body = some c) (hcb : callableB fn = true) (vars : Nat → List Nat) (nt : Nat) (hnt : fn.ntmps = nt)
    {bs0 : Boxes} {rs0 : RowL} {args : List X} {out : OutR} (hn : args.length ≤ nt) (hok : out.ok bs0.length)
    (h : vCode T O nt vars c (lentL 0 bs0 ++ (rowsL rs0 ++ argsG 0 args)) (KbR T fn.results.toList args (wrs c) out)) : CallR P f bs0 rs0 args out := by
  subst hnt
  exact ⟨callable_of hf hcb, hok, fun w vs g hlt hgr hall hbx hrw => fn_callsR hT hO hm hf hb vars hn h w vs g hlt hgr hall hbx hrw⟩
theorem KbR_n {T rs args W res bs rws G} (h1 : resX T (look G) rs = some res) (h2 : boxesEnd args W G 0 bs) (h3 : rowsEnd G rws) : KbR T rs args W (.ret res bs rws) .normal G := ⟨h1, h2, h3⟩
theorem KbR_r {T rs args W res bs rws G} (h1 : resX T (look G) rs = some res) (h2 : boxesEnd args W G 0 bs) (h3 : rowsEnd G rws) : KbR T rs args W (.ret res bs rws) .ret G := ⟨h1, h2, h3⟩
end Go.Proofs.YtdpflafjfkooeaaGreatDoorG
