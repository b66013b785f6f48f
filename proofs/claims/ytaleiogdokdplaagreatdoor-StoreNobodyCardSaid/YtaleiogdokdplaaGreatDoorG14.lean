/- G14: functions by value. -/
import Derived.Test.YtaleiogdokdplaaGreatDoorG13
namespace Go.Proofs.YtaleiogdokdplaaGreatDoorG
open Go Go.RowKit
set_option linter.unusedVariables false
set_option linter.unusedSimpArgs false

def partOf (T : Tab) (Γ : Nm → C) : ResultVar → Option PX
  | .tmp t => match Γ (.t t) with | .t (.p x) => some x | _ => none
  | .cell a ty => match ptrTo Γ (opX Γ (.tmp a)), T ty with
    | some (xs, k, _), some ti => if k + ti.size ≤ xs.length then (if ti.k.agg then some (.agg ((List.range ti.size).map fun j => tvAt xs (k + j))) else if ti.size = 1 then some (.one (tvAt xs k)) else none) else none
    | _, _ => none
def partsOf (T : Tab) (Γ : Nm → C) : List ResultVar → Option (List PX)
  | [] => some []
  | r :: rs => match partOf T Γ r, partsOf T Γ rs with | some x, some xs => some (x :: xs) | _, _ => none
def resX (T : Tab) (Γ : Nm → C) (rs : List ResultVar) : Option X := (partsOf T Γ rs).map fun xs => match xs with | [x] => .p x | xs => .tup xs
theorem sureAddr_ptr {P : Program} {u : Value} {ad : Addr} {w : World} (h : u = .pointer (some ad)) : (asAddr u).run P w = .ok ad w := by subst h; rfl
def rvAct (tmps : Array Value) : ResultVar → Sem Value
  | .tmp t => pure (tmps.getD t undef)
  | .cell a t => do loadVar t (← asAddr (tmps.getD a undef))
theorem partOf_run {P T Γ nt a w g rv x} (hT : Tok P T) (r : Rel Γ nt a w g) (h : partOf T Γ rv = some x) : ∃ v, (rvAct a.tmps rv).run P w = .ok v w ∧ PXR w g v x := by
  cases rv with
  | tmp t =>
    simp only [partOf] at h
    split at h
    · rename_i y hy
      cases h
      exact ⟨_, rfl, r.tmp hy⟩
    · cases h
  | cell ad ty =>
    simp only [partOf] at h
    split at h
    · rename_i xs k rd ti hp ht
      have hc := ptrTo_cells (Δ := Γ) hp (fun _ _ => rfl) r (opX_rel r (.tmp ad))
      have hc' := hc
      obtain ⟨b, off, us, hv, _⟩ := hc'.out
      have hv' : a.tmps.getD ad undef = .pointer (some ⟨b, off + k, none⟩) := hv
      have hrun : ∀ v, (Instr.loadAt ty (a.eval (.tmp ad))).run P w = .ok v w → (rvAct a.tmps (.cell ad ty)).run P w = .ok v w := fun v hh => by
        simp only [rvAct]
        rw [run_bind_ok (sureAddr_ptr hv')]
        have : a.eval (.tmp ad) = .pointer (some ⟨b, off + k, none⟩) := hv
        rw [this] at hh
        simp only [Instr.loadAt, Instr.sureAddr] at hh
        rw [run_bind_ok (a := (⟨b, off + k, none⟩ : Addr)) (w' := w) rfl] at hh
        exact hh
      split at h
      · rename_i hlen
        split at h
        · rename_i ha
          cases h
          obtain ⟨v, h1, h2⟩ := hc.agg (hT ty ti ht) ha hlen
          rw [slice_eq_map _ _ _ hlen] at h2
          exact ⟨v, hrun v h1, h2⟩
        · rename_i ha
          split at h
          · rename_i h1'
            cases h
            have hk : k < xs.length := by omega
            obtain ⟨v, h1, h2⟩ := hc.one (hT ty ti ht) (by simpa using ha) (x := tvAt xs k) (by simp [tvAt, List.getD, List.getElem?_eq_getElem hk])
            exact ⟨v, hrun v h1, h2⟩
          · cases h
      · cases h
    · cases h
theorem partsOf_run {P T Γ nt a w g} (hT : Tok P T) (r : Rel Γ nt a w g) : ∀ {rs : List ResultVar} {xs}, partsOf T Γ rs = some xs → ∃ vs : List Value, (rs.mapM (rvAct a.tmps)).run P w = .ok vs w ∧ All2 (PXR w g) vs xs
  | [], xs, h => by simp [partsOf] at h; subst h; exact ⟨[], by simp [List.mapM_nil], .nil⟩
  | rv :: rs, xs, h => by
    simp only [partsOf] at h
    split at h
    · rename_i x xs' h1 h2
      cases h
      obtain ⟨v, e1, e2⟩ := partOf_run hT r h1
      obtain ⟨vs, e3, e4⟩ := partsOf_run hT r h2
      refine ⟨v :: vs, ?_, .cons e2 e4⟩
      rw [List.mapM_cons, run_bind_ok e1, run_bind_ok e3]
      rfl
    · cases h
theorem resX_run {P T Γ nt a w g x} {fn : Func} (hT : Tok P T) (r : Rel Γ nt a w g) (h : resX T Γ fn.results.toList = some x) : ∃ v, (results fn a.tmps).run P w = .ok v w ∧ XR w g v x := by
  obtain ⟨xs, hxs, hx⟩ := Option.map_eq_some_iff.1 h
  obtain ⟨vs, h1, h2⟩ := partsOf_run hT r hxs
  have hmap : (fn.results.mapM (rvAct a.tmps)).run P w = .ok vs.toArray w := by
    rw [Array.mapM_eq_mapM_toList, map_eq_pure_bind, run_bind_ok h1]
    rfl
  have e : results fn a.tmps = (do let vs ← fn.results.mapM (rvAct a.tmps); pure (if h : vs.size = 1 then vs[0] else .tuple vs)) := by
    rfl
  rw [e, run_bind_ok hmap]
  refine ⟨_, rfl, ?_⟩
  cases xs with
  | nil =>
    cases vs with
    | nil => subst hx; exact ⟨#[], by simp, .nil⟩
    | cons v vs => have := h2.1; simp at this
  | cons y ys =>
    cases vs with
    | nil => have := h2.1; simp at this
    | cons v vs =>
      cases ys with
      | nil =>
        cases vs with
        | nil => subst hx; exact (by simpa using h2.head : PXR w g _ y)
        | cons v' vs => have := h2.tail.1; simp at this
      | cons z ys =>
        cases vs with
        | nil => have := h2.tail.1; simp at this
        | cons v' vs => subst hx; exact ⟨(v :: v' :: vs).toArray, by simp, by simpa using h2⟩

/-! ### results in their plain form -/
def dedup (m : List (Nat × Nat)) (h : Nat) : List (Nat × Nat) := if m.any (fun p => p.1 == h) then m else m ++ [(h, m.length)]
def resM (x : X) : List (Nat × Nat) := x.homes.foldl dedup []
def rowAt (Γ : Nm → C) (h : Nat) : Option (Nat × Nat × List SV) := match Γ (.row h) with | .row ty e xs => some (ty, e, xs) | _ => none
def rowsAt (Γ : Nm → C) : List (Nat × Nat) → Option Rows
  | [] => some []
  | (h, _) :: r => match rowAt Γ h, rowsAt Γ r with | some x, some xs => some (x :: xs) | _, _ => none
def numbered : Nat → List (Nat × Nat) → Bool
  | _, [] => true
  | k, (_, j) :: r => decide (j = k) && numbered (k + 1) r
def vRes (T : Tab) (rs : List ResultVar) (G : List (Nm × C)) (K : X → Rows → Prop) : Prop :=
  match resX T (look G) rs with
  | some x => mOk (resM x) = true ∧ numbered 0 (resM x) = true ∧ match rowsAt (look G) (resM x) with
    | some rows => K (renX (resM x) x) rows
    | none => False
  | none => False
theorem rowsAt_get {Γ : Nm → C} : ∀ {m : List (Nat × Nat)} {k0 : Nat} {rows : Rows}, rowsAt Γ m = some rows → numbered k0 m = true → ∀ k ty e xs, rows[k]? = some (ty, e, xs) → ∃ h, (h, k0 + k) ∈ m ∧ Γ (.row h) = .row ty e xs
  | [], k0, rows, h, _, k, ty, e, xs, hk => by simp [rowsAt] at h; subst h; simp at hk
  | (h0, j) :: m, k0, rows, h, hn, k, ty, e, xs, hk => by
    simp only [rowsAt] at h
    simp only [numbered, Bool.and_eq_true, decide_eq_true_eq] at hn
    split at h
    · rename_i x xs' h1 h2
      cases h
      cases k with
      | zero =>
        simp at hk
        subst hk
        unfold rowAt at h1
        split at h1
        · rename_i hr; cases h1; exact ⟨h0, by simp [hn.1], hr⟩
        · cases h1
      | succ k =>
        obtain ⟨h', hm, hr⟩ := rowsAt_get h2 hn.2 k ty e xs (by simpa using hk)
        exact ⟨h', by rw [show k0 + (k + 1) = k0 + 1 + k by omega]; exact List.mem_cons_of_mem _ hm, hr⟩
    · cases h
theorem fwd_mem {m : List (Nat × Nat)} (hm : mOk m = true) {h k} (hk : (h, k) ∈ m) : fwd m h = some k := by
  induction m with
  | nil => cases hk
  | cons p r ih =>
    obtain ⟨a, b⟩ := p
    simp only [mOk, Bool.and_eq_true] at hm
    rcases List.mem_cons.1 hk with e | e
    · cases e; simp [fwd]
    · have := List.all_eq_true.1 hm.1 _ e
      simp at this
      have hne : a ≠ h := fun e => this.1 e.symm
      simpa [fwd, hne] using ih hm.2 e

/-! ### functions -/
def argsG : Nat → List X → List (Nm × C)
  | _, [] => []
  | i, x :: r => (.t i, .t x) :: argsG (i + 1) r
theorem look_argsG {w : World} {g : Gh} : ∀ {args : List X} {vs : List Value} {k i : Nat}, All2 (XR w g) vs args → ∀ x, look (argsG k args) (.t i) = .t x → ∃ v, vs[i - k]? = some v ∧ k ≤ i ∧ XR w g v x
  | [], vs, k, i, ha, x, h => by simp [argsG, look] at h
  | y :: args, vs, k, i, ha, x, h => by
    cases vs with
    | nil => have := ha.1; simp at this
    | cons v vs =>
      simp only [argsG, look] at h
      split at h
      · rename_i e
        cases e
        cases h
        exact ⟨v, by simp, Nat.le_refl _, ha.head⟩
      · obtain ⟨v', h1, h2, h3⟩ := look_argsG (k := k + 1) ha.tail x h
        refine ⟨v', ?_, by omega, h3⟩
        rw [show i - k = (i - (k + 1)) + 1 by omega]
        simpa using h1
theorem look_argsG_other : ∀ {args : List X} {k : Nat} {n : Nm}, (∀ i, n ≠ .t i) → look (argsG k args) n = .none
  | [], k, n, h => rfl
  | y :: args, k, n, h => by simp only [argsG, look]; rw [if_neg (h k)]; exact look_argsG_other h
theorem look_argsG_t : ∀ {args : List X} {k i : Nat}, look (argsG k args) (.t i) = .none ∨ ∃ x, look (argsG k args) (.t i) = .t x
  | [], k, i => .inl rfl
  | y :: args, k, i => by
    simp only [argsG, look]
    split
    · exact .inr ⟨y, rfl⟩
    · exact look_argsG_t
def callableB (fn : Func) : Bool := !(fn.name == "runtime.NumGoroutine") && fn.body.isSome
theorem callable_of {P : Program} {f : Nat} {fn : Func} (hf : P.funcs[f]? = some fn) (hb : callableB fn = true) : ∀ vs w, (callFunc f vs).run P w = .ok (.enter f vs) w := fun vs w => by
  simp only [callableB, Bool.and_eq_true, Bool.not_eq_true'] at hb
  have h2 : fn.body.isNone = false := by cases hh : fn.body <;> simp_all
  unfold callFunc
  show ((Sem.program Sem.pure : Sem Program) >>= _).run P w = _
  rw [run_bind_ok (a := P) (w' := w) rfl]
  simp only [hf]
  rw [hb.1, h2]
  rfl

theorem leaves_marks {P : Program} {fn : Func} {nt : Nat} {R : Ending → World → Prop} {Γ : Nm → C} {a : Act} {w0 : World} {g0 : Gh} : ∀ (ds : List Deferred) {w : World} {g : Gh}, Rel Γ nt a w g → Fr w0 w g0.o g.o → Env w0.heap.size none ds w g →
    (∀ w g, Rel Γ nt a w g → Fr w0 w g0.o g.o → LeavesIn Fence.wide 0 P fn a.tmps R [] .returning w) → LeavesInM Fence.wide 0 P fn a.tmps R ds .returning w
  | [], w, g, r, f, e, h => h w g r f
  | d :: ds, w, g, r, f, e, h => by
    obtain ⟨D, rfl, h1, h2, h3, h4⟩ := e.hd d (by simp)
    refine ⟨by simp, .inl ⟨D, _, rfl, run_takeDeferred h4, leaves_marks ds (r.putO h3 _) (f.putO h1 _) ?_ h⟩⟩
    refine ⟨by simpa using e.hn, fun l hl => (by cases hl), fun d' hd' => ?_, (List.nodup_cons.1 e.nd).2⟩
    obtain ⟨D', rfl, q1, q2, q3, q4⟩ := e.hd d' (by simp [hd'])
    have hne : D' ≠ D := fun h => (List.nodup_cons.1 e.nd).1 (by rw [h] at hd'; exact hd')
    exact ⟨D', rfl, q1, by simpa using q2, q3, (World.putObj_heap_other hne).trans q4⟩
theorem fn_calls {P : Program} {T : Tab} {O : Orc} (hT : Tok P T) (hO : OrcOk P O) (hm : P.follows .mixedOrders = true) {f : Nat} {fn : Func} {c : Code} (hf : P.funcs[f]? = some fn) (hb : fn.body = some c) (vars : Nat → List Nat)
    {args : List X} {res : X} {rows : Rows} (hn : args.length ≤ fn.ntmps)
    (h : vCode T O fn.ntmps vars c (argsG 0 args) fun e G => (e = .normal ∨ e = .ret) ∧ vRes T fn.results.toList G fun res' rows' => res' = res ∧ rows' = rows) : ∀ (w : World) (vs : List Value) (g : Gh), (∀ b, g.o b = .other ∨ g.o b = .imm) → (∀ b, g.o b ≠ .other → b < w.heap.size) → All2 (XR w g) vs args →
    Calls P f vs.toArray w fun e w' => ∃ v g', e = .returned v ∧ Fr w w' g.o g'.o ∧ (∀ b, g'.o b ≠ .other → b < w'.heap.size) ∧ XR w' g' v res ∧ ∀ k ty e xs, rows[k]? = some (ty, e, xs) → RowR w' g' k ty e xs := by
  intro w vs g hg hlt hall
  refine callsIn_wide.1 (callsIn_of_wp_marks (F := Fence.wide) (n := 0) hf hb trivial ?_)
  have hvl : vs.length = args.length := hall.1
  have r0 : Rel (look (argsG 0 args)) fn.ntmps { tmps := vs.toArray ++ Array.replicate (fn.ntmps - vs.toArray.size) undef, defers := [] } w g := by
    refine ⟨by simp; omega, rfl, hlt, fun n => ?_⟩
    cases n with
    | t i =>
      rcases look_argsG_t (args := args) (k := 0) (i := i) with h1 | ⟨x, h1⟩
      · rw [h1]; trivial
      · rw [h1]
        obtain ⟨v, e1, _, e3⟩ := look_argsG hall x h1
        have hi : i < vs.length := (List.getElem?_eq_some_iff.1 e1).1
        have : (vs.toArray ++ Array.replicate (fn.ntmps - vs.toArray.size) undef).getD i undef = v := by
          simp only [Nat.sub_zero] at e1
          simp [Array.getD_eq_getD_getElem?, Array.getElem?_append, hi]
          rw [List.getElem?_eq_getElem hi] at e1
          exact Option.some.inj e1
        show XR w g _ x
        rw [this]
        exact e3
    | row k => rw [look_argsG_other (by simp)]; trivial
    | box k => rw [look_argsG_other (by simp)]; trivial
  have env0 : Env w.heap.size none [] w g := ⟨Nat.le_refl _, fun l hl => by (cases hl), fun d hd => absurd hd (by simp), List.nodup_nil⟩
  refine vCode_ok hT hO hm c h (ro := none) (ds := []) r0 (Fr.refl _ _) env0 fun e G' a' w' g' ds' hq r' f' env' _ => ?_
  obtain ⟨he, hv⟩ := hq
  have key := leaves_marks (P := P) (fn := fn) (R := fun e w' => ∃ v g', e = .returned v ∧ Fr w w' g.o g'.o ∧ (∀ b, g'.o b ≠ .other → b < w'.heap.size) ∧ XR w' g' v res ∧ ∀ k ty e xs, rows[k]? = some (ty, e, xs) → RowR w' g' k ty e xs) ds' r' f' env' fun w' g' r' f' => by
    unfold vRes at hv
    split at hv
    · rename_i x hx
      obtain ⟨hm1, hm2, hv⟩ := hv
      split at hv
      · rename_i rows' hrows
        obtain ⟨rfl, rfl⟩ := hv
        obtain ⟨v, h1, h2⟩ := resX_run hT r' hx
        refine ⟨v, h1, v, g'.ren (resM x), rfl, f'.trans (Fr.ren _ _ _), (r'.ren hm1).tags, ren_xr hm1 h2, fun k ty e xs hk => ?_⟩
        obtain ⟨hh, hmem, hrow⟩ := rowsAt_get hrows hm2 k ty e xs hk
        rw [Nat.zero_add] at hmem
        exact ren_rowr hm1 (fwd_mem hm1 hmem) (r'.row hrow)
      · exact hv.elim
    · exact hv.elim
  rcases he with rfl | rfl
  · exact key
  · exact key

theorem fn_ok {P : Program} {T : Tab} {O : Orc} (hT : Tok P T) (hO : OrcOk P O) (hm : P.follows .mixedOrders = true) {f : Nat} {fn : Func} {c : Code} (hf : P.funcs[f]? = some fn) (hb : fn.body = some c) (hcb : callableB fn = true) (vars : Nat → List Nat)
    {args : List X} {res : X} {rows : Rows} {fr : Bool} (hn : args.length ≤ fn.ntmps) (hres : res.all TV.res = true) (hfr : fr = true → res.all TV.rawR = true ∧ ∀ r ∈ rows, ∀ x ∈ r.2.2, x.isRaw = true)
    (h : vCode T O fn.ntmps vars c (argsG 0 args) fun e G => (e = .normal ∨ e = .ret) ∧ vRes T fn.results.toList G fun res' rows' => res' = res ∧ rows' = rows) : CallOk P f args res rows fr :=
  ⟨callable_of hf hcb, hres, hfr, fn_calls hT hO hm hf hb vars hn h⟩
/-- A function that asks whether its first argument is nil. -/
theorem fn_nil {P : Program} {T : Tab} {O : Orc} (hT : Tok P T) (hO : OrcOk P O) (hm : P.follows .mixedOrders = true) {f : Nat} {fn : Func} {c : Code} (hf : P.funcs[f]? = some fn) (hb : fn.body = some c) (hcb : callableB fn = true) (vars : Nat → List Nat) (ty : Nat)
    {e0 : Nat} {xs : List SV} {args : List X} {res : X} {rows : Rows} {fr : Bool} (hn : args.length + 1 ≤ fn.ntmps) (hres : res.all TV.res = true) (hfr : fr = true → res.all TV.rawR = true ∧ ∀ r ∈ rows, ∀ x ∈ r.2.2, x.isRaw = true)
    (h1 : xs = [] → vCode T O fn.ntmps vars c (argsG 0 (.p (.one (.nl ty 0)) :: args)) fun e G => (e = .normal ∨ e = .ret) ∧ vRes T fn.results.toList G fun res' rows' => res' = res ∧ rows' = rows)
    (h2 : vCode T O fn.ntmps vars c (argsG 0 (.p (.one (.nn e0 xs)) :: args)) fun e G => (e = .normal ∨ e = .ret) ∧ vRes T fn.results.toList G fun res' rows' => res' = res ∧ rows' = rows) :
    CallOk P f (.p (.one (.v (.sl e0 xs))) :: args) res rows fr := by
  refine ⟨callable_of hf hcb, hres, hfr, fun w vs g hg hlt hall => ?_⟩
  cases vs with
  | nil => have := hall.1; simp at this
  | cons v vs =>
    have hv : SVR w g.o v (.sl e0 xs) := hall.head
    by_cases hnil : ∃ n c, v = .slice none n c
    · obtain ⟨n, c', rfl⟩ := hnil
      have hc := SVR.noneCap hv rfl
      have hx : xs = [] ∧ n = 0 := by
        cases hv with
        | nil => exact ⟨rfl, rfl⟩
      obtain ⟨hx1, rfl⟩ := hx
      subst hc
      exact fn_calls hT hO hm hf hb vars (by simpa using hn) (h1 hx1) w _ g hg hlt (All2.cons rfl hall.tail)
    · exact fn_calls hT hO hm hf hb vars (by simpa using hn) h2 w _ g hg hlt (All2.cons ⟨hv, fun n c' e => hnil ⟨n, c', e⟩⟩ hall.tail)

end Go.Proofs.YtaleiogdokdplaaGreatDoorG
