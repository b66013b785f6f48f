/- YtdpflafjfkooeaaGreatDoorZ5: a part of the proof, joined of its texts. -/
import Derived.Test.YtdpflafjfkooeaaGreatDoorZ4
/- G9: calls of Go functions, by what they give by value. -/
namespace Go.Proofs.YtdpflafjfkooeaaGreatDoorG
open Go Go.RowKit
set_option linter.unusedVariables false
set_option linter.unusedSimpArgs false
abbrev Rows := List (Nat × Nat × List SV)
def SV.isRaw : SV → Bool
  | .raw _ => true
  | _ => false
/-- Results: values and own rows alone; `raw`: no slice but own rows of scalars. -/
def TV.res : TV → Bool
  | .v _ | .sr _ => true
  | _ => false
def TV.rawR : TV → Bool
  | .v x => x.isRaw
  | .sr _ => true
  | _ => false
def PX.all (f : TV → Bool) : PX → Bool
  | .one x => f x
  | .agg xs => xs.all f
def X.all (f : TV → Bool) : X → Bool
  | .p x => x.all f
  | .tup xs => xs.all fun p => p.all f
structure CallOk (P : Program) (f : Nat) (args : List X) (res : X) (rows : Rows) (fr : Bool) : Prop where
  callable : ∀ vs w, (callFunc f vs).run P w = .ok (.enter f vs) w
  resok : res.all TV.res = true
  fresh : fr = true → res.all TV.rawR = true ∧ ∀ r ∈ rows, ∀ x ∈ r.2.2, x.isRaw = true
  calls : ∀ (w : World) (vs : List Value) (g : Gh), (∀ b, g.o b = .other ∨ g.o b = .imm) → (∀ b, g.o b ≠ .other → b < w.heap.size) → GR w g.o → All2 (XR w g) vs args →
    Calls P f vs.toArray w fun e w' => ∃ v g', e = .returned v ∧ Fr w w' g.o g'.o ∧ (∀ b, g'.o b ≠ .other → b < w'.heap.size) ∧ XR w' g' v res ∧ ∀ k ty e xs, rows[k]? = some (ty, e, xs) → RowR w' g' k ty e xs
/-- Contents without homes. -/
def SVal : X → Prop
  | .p (.one (.v _)) => True
  | .p (.agg xs) => ∀ x ∈ xs, ∃ y, x = .v y
  | _ => False
/-- An iterator (its function, what it has caught): it hands over els, one by one, as long as it is asked to. -/
structure IterOk (P : Program) (gf : Nat) (caps : List SV) (els : List (List X)) : Prop where
  callable : ∀ vs w, (callFunc gf vs).run P w = .ok (.enter gf vs) w
  sval : ∀ xs ∈ els, ∀ x ∈ xs, SVal x
  run : ∀ (w : World) (vs : List Value) (g : Gh), (∀ b, g.o b = .other ∨ g.o b = .imm) → (∀ b, g.o b ≠ .other → b < w.heap.size) → GR w g.o → All2 (SVR w g.o) vs caps → ∀ (l : Nat) (J : Nat → World → Prop) (Jx : World → Prop),
    (∀ k xs w1, els[k]? = some xs → J k w1 → w.heap.size ≤ w1.heap.size → (∀ b, g.o b = .imm → w1.heap[b]? = w.heap[b]?) → ∀ us, All2 (XR w1 g) us xs → YieldAt Fence.wide 0 P l us.toArray w1 fun e w2 =>
      (e = .returned (.bool true) ∧ J (k + 1) w2 ∧ w1.heap.size ≤ w2.heap.size ∧ (∀ b, g.o b = .imm → w2.heap[b]? = w1.heap[b]?)) ∨ (e = .returned (.bool false) ∧ Jx w2)) →
    J 0 w → Calls P gf (.func (.yield l) #[] #[] :: vs).toArray w fun e w' => (∃ v, e = .returned v) ∧ (J els.length w' ∨ Jx w')
/-- A function that is handed an own row, as its first argument. -/
structure CallM (P : Program) (f : Nat) (row : Nat × Nat × List SV) (args : List X) (res : X) (rows : Rows) : Prop where
  callable : ∀ vs w, (callFunc f vs).run P w = .ok (.enter f vs) w
  resok : res.all TV.res = true
  calls : ∀ (w : World) (vs : List Value) (g : Gh), (∀ b, g.o b = .other ∨ g.o b = .imm ∨ g.o b = .row 0) → (∀ b, g.o b ≠ .other → b < w.heap.size) → GR w g.o → All2 (XR w g) vs (.p (.one (.sr 0)) :: args) → RowR w g 0 row.1 row.2.1 row.2.2 →
    Calls P f vs.toArray w fun e w' => ∃ v g', e = .returned v ∧ Fr w w' g.o g'.o ∧ (∀ b, g'.o b ≠ .other → b < w'.heap.size) ∧ XR w' g' v res ∧ ∀ k ty e xs, rows[k]? = some (ty, e, xs) → RowR w' g' k ty e xs
/-- A function that sorts an own row in its place, its first argument: ys stand where xs stood; nothing else that was there turns. -/
structure CallS (P : Program) (f : Nat) (row : Nat × Nat × List SV) (args : List X) (ys : List SV) : Prop where
  callable : ∀ vs w, (callFunc f vs).run P w = .ok (.enter f vs) w
  calls : ∀ (w : World) (vs : List Value) (g : Gh), (∀ b, g.o b = .other ∨ g.o b = .imm ∨ g.o b = .row 0) → (∀ b, g.o b ≠ .other → b < w.heap.size) → GR w g.o → All2 (XR w g) vs (.p (.one (.sr 0)) :: args) → RowR w g 0 row.1 row.2.1 row.2.2 →
    Calls P f vs.toArray w fun e w' => ∃ v, e = .returned v ∧ Fr w w' g.o g.o ∧ RowR w' g 0 row.1 row.2.1 ys
/-- What a call that is lent own variables comes to: a result by value, the variables behind it (of one without cells nothing is told); or a panic. -/
abbrev Boxes := List (Nat × List TV)
inductive Out where
  | ret (res : X) (bs : Boxes)
  | pan (v : Value)
/-- A lent variable's contents: values, pointers to lent variables. -/
def TV.lent : TV → Bool
  | .v _ | .pr _ _ | .dead => true
  | _ => false
def TV.isV : TV → Bool
  | .v _ => true
  | _ => false
def Out.ok (n : Nat) : Out → Prop
  | .ret res bs => res.all TV.isV = true ∧ bs.length = n ∧ ∀ b ∈ bs, ∀ x ∈ b.2, x.lent = true
  | .pan _ => True
def Out.post (w : World) (g : Gh) (e : Ending) (w' : World) : Out → Prop
  | .ret res bs => ∃ v g', e = .returned v ∧ Fr w w' g.o g'.o ∧ (∀ b, g'.o b ≠ .other → b < w'.heap.size) ∧ XR w' g' v res ∧ ∀ k ty xs, bs[k]? = some (ty, xs) → xs ≠ [] → BoxR w' g' k ty xs ∧ g'.bk k = g.bk k
  | .pan v => e = .panicked [{ v := v, recovered := false }] ∧ ∃ o', Fr w w' g.o o'
structure CallB (P : Program) (f : Nat) (bs : Boxes) (args : List X) (out : Out) : Prop where
  callable : ∀ vs w, (callFunc f vs).run P w = .ok (.enter f vs) w
  resok : out.ok bs.length
  calls : ∀ (w : World) (vs : List Value) (g : Gh), (∀ b, g.o b = .other ∨ g.o b = .imm ∨ ∃ k, g.o b = .box k) → (∀ b, g.o b ≠ .other → b < w.heap.size) → GR w g.o → All2 (XR w g) vs args → (∀ k ty xs, bs[k]? = some (ty, xs) → BoxR w g k ty xs) →
    Calls P f vs.toArray w fun e w' => out.post w g e w'
/-- Own rows, by their homes. -/
abbrev RowL := List (Nat × Nat × Nat × List SV)
/-- What a call comes to that is lent own variables together with the own rows in them. -/
inductive OutR where
  | ret (res : X) (bs : Boxes) (rs : RowL)
  | pan (v : Value)
def TV.small (n : Nat) : TV → Bool
  | .sr k => decide (k < n)
  | _ => true
def TV.lentR : TV → Bool
  | .v _ | .pr _ _ | .dead => true
  | .sr k => decide (k < 90)
  | _ => false
def OutR.ok (n : Nat) : OutR → Prop
  | .ret res bs rs => res.all TV.res = true ∧ res.all (TV.small 90) = true ∧ bs.length = n ∧ (∀ b ∈ bs, ∀ x ∈ b.2, x.lentR = true) ∧ ∀ x ∈ rs, x.1 < 90
  | .pan _ => True
def OutR.post (w : World) (g : Gh) (e : Ending) (w' : World) : OutR → Prop
  | .ret res bs rs => ∃ v g', e = .returned v ∧ Fr w w' g.o g'.o ∧ (∀ b, g'.o b ≠ .other → b < w'.heap.size) ∧ XR w' g' v res ∧ (∀ k ty xs, bs[k]? = some (ty, xs) → xs ≠ [] → BoxR w' g' k ty xs ∧ g'.bk k = g.bk k) ∧ ∀ x ∈ rs, RowR w' g' x.1 x.2.1 x.2.2.1 x.2.2.2
  | .pan v => e = .panicked [{ v := v, recovered := false }] ∧ ∃ o', Fr w w' g.o o'
structure CallR (P : Program) (f : Nat) (bs : Boxes) (rs : RowL) (args : List X) (out : OutR) : Prop where
  callable : ∀ vs w, (callFunc f vs).run P w = .ok (.enter f vs) w
  resok : out.ok bs.length
  calls : ∀ (w : World) (vs : List Value) (g : Gh), (∀ b, g.o b ≠ .other → b < w.heap.size) → GR w g.o → All2 (XR w g) vs args → (∀ k ty xs, bs[k]? = some (ty, xs) → BoxR w g k ty xs) → (∀ x ∈ rs, RowR w g x.1 x.2.1 x.2.2.1 x.2.2.2) →
    Calls P f vs.toArray w fun e w' => out.post w g e w'
/-- What is known of functions: by arguments, what they give (with what has to be shown ahead); of iterators; of those that are handed an own row (mv); and of those that are lent own variables (bx). -/
structure Orc where
  f : Nat → List X → (X → Rows → Bool → Prop) → Prop
  it : Nat → List SV → (List (List X) → Prop) → Prop
  m : Nat → Nat × Nat × List SV → List X → (X → Rows → Prop) → Prop
  mv : Nat → Bool
  b : Nat → Boxes → List X → (Out → Prop) → Prop
  bx : Nat → Bool
  s : Nat → Nat × Nat × List SV → List X → (List SV → Prop) → Prop
  sx : Nat → Bool
  r : Nat → Boxes → RowL → List X → (OutR → Prop) → Prop
  rx : Nat → Bool
structure OrcOk (P : Program) (O : Orc) : Prop where
  b : ∀ f bs args K, O.b f bs args K → ∃ out, CallB P f bs args out ∧ K out
  s : ∀ f r args K, O.s f r args K → ∃ ys, CallS P f r args ys ∧ K ys
  r : ∀ f bs rs args K, O.r f bs rs args K → ∃ out, CallR P f bs rs args out ∧ K out
  m : ∀ f r args K, O.m f r args K → ∃ res rows, CallM P f r args res rows ∧ K res rows
  f : ∀ f args K, O.f f args K → ∃ res rows fr, CallOk P f args res rows fr ∧ K res rows fr
  it : ∀ gf caps K, O.it gf caps K → ∃ els, IterOk P gf caps els ∧ K els
def byVal (Γ : Nm → C) : X → Option (X × List Nat)
  | .p (.one x) => (frzT Γ x).map fun p => (.p (.one (.v p.1)), p.2)
  | .p (.agg xs) => (frzL Γ xs).map fun p => (.p (.agg (p.1.map .v)), p.2)
  | .tup _ => none
theorem byVal_rel {Γ Δ nt a w g u x y hs0 hs} (r : Rel Δ nt a w g) (h : byVal Γ x = some (y, hs0)) (hr : ∀ k ∈ hs0, Δ (.row k) = Γ (.row k)) (hsub : ∀ k ∈ hs0, k ∈ hs) (hx : XR w g u x) : XR w (g.frz hs) u y := by
  unfold byVal at h
  split at h
  · obtain ⟨⟨s, hs1⟩, h1, h2⟩ := Option.map_eq_some_iff.1 h
    cases h2
    exact frzT_rel r h1 hr hsub hx
  · obtain ⟨⟨s, hs1⟩, h1, h2⟩ := Option.map_eq_some_iff.1 h
    cases h2
    obtain ⟨cs, hv, hall⟩ := hx
    exact ⟨cs, hv, (frzL_rel r h1 hr hsub hall).svTv⟩
  · cases h
def argsV (T : Tab) (Γ : Nm → C) : List Nat → List Operand → Option (List X × List Nat)
  | _, [] => some ([], [])
  | ts, x :: r => match byVal Γ (nlAs T (ts.headD 0) (opX Γ x)), argsV T Γ (ts.drop 1) r with
    | some (y, h1), some (ys, h2) => some (y :: ys, h1 ++ h2)
    | _, _ => none
theorem argsV_rel {T Γ Δ nt a w g} (r : Rel Δ nt a w g) {hs} : ∀ {xs : List Operand} {ts ys hs0}, argsV T Γ ts xs = some (ys, hs0) → (∀ n ∈ xs.flatMap opR, Δ n = Γ n) → (∀ k ∈ hs0, Δ (.row k) = Γ (.row k)) → (∀ k ∈ hs0, k ∈ hs) →
    All2 (XR w (g.frz hs)) (xs.map a.eval) ys := by
  intro xs
  induction xs with
  | nil => intro ts ys hs0 h _ _ _; simp [argsV] at h; obtain ⟨rfl, rfl⟩ := h; exact .nil
  | cons x xs ih =>
    intro ts ys hs0 h h1 h2 h3
    simp only [argsV] at h
    split at h
    · rename_i y e1 ys' e2 q1 q2
      cases h
      have hx := opX_rel r x
      rw [opX_congr (Γ := Γ) fun n hn => h1 n (by simp [hn])] at hx
      exact .cons (byVal_rel r q1 (fun k hk => h2 k (by simp [hk])) (fun k hk => h3 k (by simp [hk])) (nlAs_rel hx)) (ih q2 (fun n hn => h1 n (by simp only [List.flatMap_cons, List.mem_append]; exact .inr hn)) (fun k hk => h2 k (by simp [hk])) (fun k hk => h3 k (by simp [hk])))
    · cases h
def TV.sh (b : Nat) : TV → TV
  | .sr k => .sr (b + k)
  | x => x
def PX.sh (b : Nat) : PX → PX
  | .one x => .one (x.sh b)
  | .agg xs => .agg (xs.map (TV.sh b))
def X.sh (b : Nat) : X → X
  | .p x => .p (x.sh b)
  | .tup xs => .tup (xs.map (PX.sh b))
def rowsW (b : Nat) : Nat → Rows → List (Nm × C)
  | _, [] => []
  | k, (ty, e, xs) :: r => (.row (b + k), .row ty e xs) :: rowsW b (k + 1) r
/-- The ghosts behind a call. -/
def Gh.after (g : Gh) (B n : Nat) (g' : Gh) : Gh where
  o := fun b => if b < n then g.o b else match g'.o b with | .row k => .row (B + k) | .imm => .imm | _ => .other
  hd := fun k => if B ≤ k ∧ k < B + 100 then g'.hd (k - B) else g.hd k
  bk := g.bk
def Gh.callee (g : Gh) : Gh := { o := fun b => if g.o b = .imm then .imm else .other, hd := g.hd, bk := g.bk }
theorem SVR.callee {w : World} {g : Gh} {u : Value} {x : SV} (h : SVR w g.o u x) : SVR w g.callee.o u x := h.mono fun b hb => ⟨by simp [Gh.callee, hb], rfl⟩
theorem byVal_sval {Γ x y hs} (h : byVal Γ x = some (y, hs)) : SVal y := by
  unfold byVal at h
  split at h
  · obtain ⟨⟨s, hs1⟩, h1, h2⟩ := Option.map_eq_some_iff.1 h; cases h2; trivial
  · obtain ⟨⟨s, hs1⟩, h1, h2⟩ := Option.map_eq_some_iff.1 h; cases h2; intro x hx; obtain ⟨y, _, rfl⟩ := List.mem_map.1 hx; exact ⟨y, rfl⟩
  · cases h
theorem SVal.callee {w g u x} (hs : SVal x) (h : XR w g u x) : XR w g.callee u x := by
  cases x with
  | tup xs => exact hs.elim
  | p p => cases p with
    | one y => cases y <;> first | exact SVR.callee h | exact absurd hs (by simp [SVal])
    | agg xs =>
      obtain ⟨cs, hv, hall⟩ := h
      refine ⟨cs, hv, hall.mono' fun u y hy hr => ?_⟩
      obtain ⟨z, rfl⟩ := hs y hy
      exact SVR.callee hr
theorem argsV_sval {T Γ} : ∀ {xs : List Operand} {ts ys hs0}, argsV T Γ ts xs = some (ys, hs0) → ∀ y ∈ ys, SVal y := by
  intro xs
  induction xs with
  | nil => intro ts ys hs0 h; simp [argsV] at h; obtain ⟨rfl, rfl⟩ := h; simp
  | cons x xs ih =>
    intro ts ys hs0 h y hy
    simp only [argsV] at h
    split at h
    · rename_i y' e1 ys' e2 q1 q2
      cases h
      rcases List.mem_cons.1 hy with rfl | hy
      · exact byVal_sval q1
      · exact ih q2 y hy
    · cases h
section
variable {Δ : Nm → C} {nt : Nat} {a : Act} {w w' : World} {g g' : Gh} {B : Nat}
/-- How the callee's ghosts stand to the caller's behind the call; `hs`: what was lent. -/
theorem frz_nil (g : Gh) : g.frz [] = g := by
  have e0 : (g.frz []).o = g.o := funext fun b => by
    simp only [Gh.frz]
    cases hgo : g.o b <;> simp
  show Gh.mk (g.frz []).o _ _ = _
  rw [e0]
structure Aft (w w' : World) (g g' : Gh) (hs : List Nat) : Prop where
  fr : Fr w w' (g.frz hs).callee.o g'.o
  lt : ∀ b, g'.o b ≠ .other → b < w'.heap.size
theorem Aft.old {hs} (h : Aft w w' g g' hs) {b : Nat} (hb : b < w.heap.size) : w'.heap[b]? = w.heap[b]? ∧ g'.o b = (g.frz hs).callee.o b :=
  h.fr.keep b hb (by simp only [Gh.callee]; split <;> simp)
theorem Aft.svr {hs} (h : Aft w w' g g' hs) (hk : hs = []) {u x} (r : SVR w' g'.o u x) : SVR w' (g.after B w.heap.size g').o u x := r.mono fun b hb => by
  refine ⟨?_, rfl⟩
  simp only [Gh.after]
  by_cases hlt : b < w.heap.size
  · rw [if_pos hlt]
    have := (h.old hlt).2
    rw [hb, hk, frz_nil] at this
    simp only [Gh.callee] at this
    split at this
    · rename_i hh; exact hh
    · simp at this
  · rw [if_neg hlt, hb]
theorem Aft.svr' {hs} (h : Aft w w' g g' hs) {u} {x : SV} (hx : x.isRaw = true) (r : SVR w' g'.o u x) : SVR w' (g.after B w.heap.size g').o u x := by
  cases r with
  | raw _ hv => exact .raw _ hv
  | nil => simp [SV.isRaw] at hx
  | sl => simp [SV.isRaw] at hx
  | pt => simp [SV.isRaw] at hx
  | clo => simp [SV.isRaw] at hx
  | ifc => simp [SV.isRaw] at hx
theorem Aft.tvr {hs} (h : Aft w w' g g' hs) {u : Value} {x : TV} (hk : hs = [] ∧ x.res = true ∨ x.rawR = true) (hsz : ∀ k, x = .sr k → k < 100) (r : TVR w' g' u x) : TVR w' (g.after B w.heap.size g') u (x.sh B) := by
  cases x with
  | v y =>
    rcases hk with ⟨h1, _⟩ | h1
    · exact h.svr h1 r
    · exact h.svr' h1 r
  | sr k =>
    have hlt := hsz k rfl
    have r' : u = g'.hd k := r
    show u = (g.after B w.heap.size g').hd (B + k)
    simp [Gh.after, r', hlt]
  | _ => rcases hk with ⟨_, h1⟩ | h1 <;> simp [TV.res, TV.rawR] at h1
end
theorem Aft.pxr {w w' g g' hs B} (h : Aft w w' g g' hs) {u} {x : PX} (hk : hs = [] ∧ x.all TV.res = true ∨ x.all TV.rawR = true) (hsz : x.all (TV.small 90) = true) (r : PXR w' g' u x) : PXR w' (g.after B w.heap.size g') u (x.sh B) := by
  have hs' : ∀ y : TV, y.small 90 = true → ∀ k, y = .sr k → k < 100 := fun y hy k e => by subst e; simp [TV.small] at hy; omega
  cases x with
  | one y => exact h.tvr (by simpa [PX.all] using hk) (hs' y (by simpa [PX.all] using hsz)) r
  | agg xs =>
    obtain ⟨cs, hv, hall⟩ := r
    refine ⟨cs, hv, by simp [hall.1], fun j u y h1 h2 => ?_⟩
    simp only [List.getElem?_map] at h2
    cases hx : xs[j]? with
    | none => simp [hx] at h2
    | some z =>
      simp [hx] at h2
      subst h2
      have hmem := List.mem_of_getElem? hx
      refine h.tvr ?_ (hs' z (List.all_eq_true.1 hsz z hmem)) (hall.2 j u z h1 hx)
      rcases hk with ⟨q1, q2⟩ | q2
      · exact .inl ⟨q1, List.all_eq_true.1 q2 z hmem⟩
      · exact .inr (List.all_eq_true.1 q2 z hmem)
theorem Aft.xr {w w' g g' hs B} (h : Aft w w' g g' hs) {u} {x : X} (hk : hs = [] ∧ x.all TV.res = true ∨ x.all TV.rawR = true) (hsz : x.all (TV.small 90) = true) (r : XR w' g' u x) : XR w' (g.after B w.heap.size g') u (x.sh B) := by
  cases x with
  | p y => exact h.pxr hk hsz r
  | tup xs =>
    obtain ⟨cs, hv, hall⟩ := r
    refine ⟨cs, hv, by simp [hall.1], fun j u y h1 h2 => ?_⟩
    simp only [List.getElem?_map] at h2
    cases hx : xs[j]? with
    | none => simp [hx] at h2
    | some z =>
      simp [hx] at h2
      subst h2
      have hmem := List.mem_of_getElem? hx
      refine h.pxr ?_ (List.all_eq_true.1 hsz z hmem) (hall.2 j u z h1 hx)
      rcases hk with ⟨q1, q2⟩ | q2
      · exact .inl ⟨q1, List.all_eq_true.1 q2 z hmem⟩
      · exact .inr (List.all_eq_true.1 q2 z hmem)
theorem rel_rowsW {nt a w g B} : ∀ {rows : Rows} {k : Nat} {Γ : Nm → C}, Rel Γ nt a w g → (∀ j ty e xs, rows[j]? = some (ty, e, xs) → RowR w g (B + (k + j)) ty e xs) → Rel (ups Γ (rowsW B k rows)) nt a w g
  | [], k, Γ, r, _ => r
  | (ty, e, xs) :: rest, k, Γ, r, h => by
    simp only [rowsW, ups]
    refine Rel.upd (rel_rowsW r fun j ty' e' xs' hj => ?_) (h 0 ty e xs rfl)
    have := h (j + 1) ty' e' xs' (by simpa using hj)
    rwa [show k + (j + 1) = k + 1 + j by omega] at this
theorem call_core {P : Program} {Δ : Nm → C} {nt i : Nat} {a : Act} {w w' : World} {g g' : Gh} {hs : List Nat} {rows : Rows} {res : X} {v : Value} (r : Rel Δ nt a w g) (hu : ∀ k, isTh i k → Unm Δ k) (h : Aft w w' g g' hs)
    (hk : hs = [] ∧ res.all TV.res = true ∨ (res.all TV.rawR = true ∧ ∀ r ∈ rows, ∀ x ∈ r.2.2, x.isRaw = true)) (hsz : res.all (TV.small 90) = true) (hrl : rows.length ≤ 90)
    (hx : XR w' g' v res) (hrows : ∀ k ty e xs, rows[k]? = some (ty, e, xs) → RowR w' g' k ty e xs) :
    Rel (ups Δ (rowsW (th i 0) 0 rows)) nt a w' (g.after (th i 0) w.heap.size g') ∧ Fr w w' g.o (g.after (th i 0) w.heap.size g').o ∧ XR w' (g.after (th i 0) w.heap.size g') v (res.sh (th i 0)) := by
  have hnotth : ∀ k, ¬ Unm Δ k → ¬ (th i 0 ≤ k ∧ k < th i 0 + 100) := fun k hk hc => hk (hu k (by unfold isTh; unfold th at hc; omega))
  have ext : Ext w w' g (g.after (th i 0) w.heap.size g') none fun k => ¬ Unm Δ k :=
    ⟨h.fr.size, fun b hb _ => ⟨(h.old (r.tags b hb)).1, by simp [Gh.after, r.tags b hb]⟩,
      fun b hb => by
        by_cases hlt : b < w.heap.size
        · exact Nat.lt_of_lt_of_le hlt h.fr.size
        · refine h.lt b fun e => hb ?_
          simp [Gh.after, hlt, e],
      fun k hk => by simp only [Gh.after]; rw [if_neg (hnotth k hk)], fun k _ => rfl⟩
  refine ⟨rel_rowsW (r.ext ext) fun j ty e xs hj => ?_, ⟨h.fr.os, h.fr.tape, h.fr.output, h.fr.size, fun b hb _ => ⟨(h.old hb).1, by simp [Gh.after, hb]⟩, fun b hb ⟨k, hk⟩ => ⟨by simp [Gh.after, hb, hk, Tag.nr], Shp.of_eq (h.old hb).1⟩⟩, h.xr (hk.imp id (·.1)) hsz hx⟩
  obtain ⟨n, vs, he, hn, ho', hall⟩ := hrows j ty e xs hj
  have hjl : j < rows.length := (List.getElem?_eq_some_iff.1 hj).1
  have hhd : (g.after (th i 0) w.heap.size g').hd (th i 0 + (0 + j)) = g'.hd j := by simp only [Gh.after]; rw [if_pos (by omega)]; congr 1; omega
  refine ⟨n, vs, he, hn, ?_, ?_⟩
  rotate_left
  · rcases hk with ⟨q1, _⟩ | ⟨_, q2⟩
    · exact hall.mono fun u x => h.svr q1
    · exact hall.mono' fun u x hx => h.svr' (q2 _ (List.mem_of_getElem? hj) x hx)
  · unfold OwnR
    rw [hhd]
    rcases ho' with ⟨ho, htag⟩ | hz
    case inr => exact .inr hz
    refine .inl ⟨ho, fun b hb => ?_⟩
    have ht := htag b hb
    have hnl : ¬ b < w.heap.size := fun hlt => by
      have := (h.old hlt).2
      rw [ht] at this
      simp only [Gh.callee] at this
      split at this <;> simp at this
    simp [Gh.after, hnl, ht]
def vCallG (T : Tab) (O : Orc) (Γ : Nm → C) (i : Nat) (o : Oper) (rd0 : List Nm) (f : Nat) (caps : List SV) (ts : List Nat) (xs : List Operand) (K : List Nm → List (Nm × C) → Prop) : Prop :=
  match argsV T Γ ts xs with
  | some (ys, hs) => O.f f (ys ++ caps.map fun s => .p (.one (.v s))) fun res rows fr => res.all (TV.small 90) = true ∧ rows.length ≤ 90 ∧
      if fr || hs.isEmpty then K (rd0 ++ (xs.flatMap opR ++ hs.map .row)) (putT o.dst (res.sh (th i 0)) ++ rowsW (th i 0) 0 rows)
      else K (rd0 ++ (xs.flatMap opR ++ hs.map .row)) (putT o.dst (res.sh (th i 0)) ++ (rowsW (th i 0) 0 rows ++ frzW hs))
  | none => False
def vCall (T : Tab) (O : Orc) (Γ : Nm → C) (i : Nat) (o : Oper) (rd0 : List Nm) (f : Nat) (ts : List Nat) (xs : List Operand) (K : List Nm → List (Nm × C) → Prop) : Prop :=
  match argsV T Γ ts xs with
  | some (ys, hs) => O.f f ys fun res rows fr => res.all (TV.small 90) = true ∧ rows.length ≤ 90 ∧
      if fr || hs.isEmpty then K (rd0 ++ (xs.flatMap opR ++ hs.map .row)) (putT o.dst (res.sh (th i 0)) ++ rowsW (th i 0) 0 rows)
      else K (rd0 ++ (xs.flatMap opR ++ hs.map .row)) (putT o.dst (res.sh (th i 0)) ++ (rowsW (th i 0) 0 rows ++ frzW hs))
  | none => False
theorem ups_append (Γ : Nm → C) (a b : List (Nm × C)) : ups Γ (a ++ b) = ups (ups Γ b) a := by
  induction a with
  | nil => rfl
  | cons p a ih => simp only [List.cons_append, ups, ih]
theorem vCallG_ok {P T O Γ nt i o c f caps K cx rd0} (hO : OrcOk P O) (hd : dOk nt o) (ho : o.op = .call c) (hc : c.callee = .value cx) (hcal : ∀ (Δ : Nm → C) (a : Act) w g, (∀ n ∈ rd0, Δ n = Γ n) → Rel Δ nt a w g → ∃ lb : List Value, a.eval cx = .func (.func f) #[] lb.toArray ∧ All2 (SVR w g.o) lb caps)
    (h : vCallG T O Γ i o rd0 f caps c.argTypes.toList c.args.toList K) : Good P nt i o Γ K := by
  unfold vCallG at h
  split at h
  · rename_i ys hs hargs
    obtain ⟨res, rows, fr, hcall, hsz, hrl, h⟩ := hO.f _ _ _ h
    have hexec : ∀ (a : Act) (w : World) (lb : Array Value), a.eval cx = .func (.func f) #[] lb → (execOp a.eval o).run P w = .ok (.enter f (c.args.map a.eval ++ lb)) w := fun a w lb hcx => by
      have := hcall.callable (c.args.map a.eval ++ lb) w
      have e1 : execOp a.eval o = (do let d ← resolve a.eval c o.type; invoke d.target d.args) := by simp only [execOp, ho]
      have e2 : (resolve a.eval c o.type).run P w = .ok { target := .fn (.func f) lb, args := c.args.map a.eval } w := by
        unfold resolve
        rw [hc]
        simp only [hcx]
        show (Deferred.ofValue (.func (.func f) #[] lb) (c.args.map a.eval)).run P w = _
        simp [Deferred.ofValue]
      rw [e1, run_bind_ok e2]
      unfold invoke
      simpa using this
    have hcore : ∀ (Δ : Nm → C) (a : Act) (w : World) (g : Gh) Q K', (∀ n ∈ rd0 ++ (c.args.toList.flatMap opR ++ hs.map .row), Δ n = Γ n) → Rel Δ nt a w g →
        (∀ v w' g', Aft w w' g g' hs → XR w' g' v res → (∀ k ty e xs, rows[k]? = some (ty, e, xs) → RowR w' g' k ty e xs) → K' (a.put o.dst v) w') → o.wp P a w K' Q := fun Δ a w g Q K' hr r hk => by
      obtain ⟨lb, hcx, hlb⟩ := hcal Δ a w g (fun n hn => hr n (List.mem_append_left _ hn)) r
      have hrel := argsV_rel (hs := hs) r hargs (fun n hn => hr n (List.mem_append_right _ (List.mem_append_left _ hn))) (fun k hk => hr _ (by simp [hk])) (fun k hk => hk)
      have hsv := argsV_sval hargs
      have hcp : All2 (XR w (g.frz hs).callee) lb (caps.map fun s => .p (.one (.v s))) := by
        refine ⟨by simp [hlb.1], fun j u x h1 h2 => ?_⟩
        rw [List.getElem?_map] at h2
        cases hx : caps[j]? with
        | none => simp [hx] at h2
        | some y => simp [hx] at h2; subst h2; exact SVR.callee (frz_svr (hlb.2 j u y h1 hx))
      have hcl := hcall.calls w (c.args.toList.map a.eval ++ lb) (g.frz hs).callee (fun b => by simp only [Gh.callee]; split <;> simp) (fun b hb => by
        refine r.tags b fun e => hb ?_
        have : (g.frz hs).o b = .other := frz_other.2 e
        simp [Gh.callee, this]) (r.gl.keep fun q => ⟨rfl, by simp [Gh.callee, Gh.frz, q]⟩) ((hrel.mono' fun u y hy => (hsv y hy).callee).append hcp)
      unfold Oper.wp
      rw [hexec a w _ hcx]
      show Calls P f (c.args.map a.eval ++ lb.toArray) w _
      have e : (c.args.toList.map a.eval ++ lb).toArray = c.args.map a.eval ++ lb.toArray := by rw [← Array.toList_map]; simp
      rw [e] at hcl
      refine hcl.mono fun en w' hh => ?_
      obtain ⟨v, g', rfl, h1, h2, h3, h4⟩ := hh
      exact hk v w' g' ⟨h1, h2⟩ h3 h4
    split at h
    · rename_i hcond
      refine ⟨_, _, ?_, h⟩
      intro Δ a w g Q K' hr hu r hk
      refine hcore Δ a w g Q K' hr r fun v w' g' h1 h2 h3 => ?_
      have hcond' : hs = [] ∧ res.all TV.res = true ∨ (res.all TV.rawR = true ∧ ∀ r ∈ rows, ∀ x ∈ r.2.2, x.isRaw = true) := by
        simp only [Bool.or_eq_true, List.isEmpty_iff] at hcond
        rcases hcond with hf | hn
        · exact .inr (hcall.fresh hf)
        · exact .inl ⟨hn, hcall.resok⟩
      obtain ⟨r2, f2, x2⟩ := call_core (P := P) r hu h1 hcond' hsz hrl h2 h3
      exact hk _ _ _ (rel_putT' (Γ := Δ) hd r2 x2) f2
    · refine ⟨_, _, ?_, h⟩
      intro Δ a w g Q K' hr hu r hk
      refine hcore Δ a w g Q K' hr r fun v w' g' h1 h2 h3 => ?_
      have h1' : Aft w w' (g.frz hs) g' [] := by
        refine ⟨?_, h1.lt⟩
        rw [frz_nil]
        exact h1.fr
      obtain ⟨r2, f2, x2⟩ := call_core (P := P) (r.frz hs) (fun k hk => (hu k hk).frzW) h1' (.inl ⟨rfl, hcall.resok⟩) hsz hrl h2 h3
      rw [← ups_append] at r2
      exact hk _ _ _ (rel_putT' (Γ := Δ) hd r2 x2) ((Fr.frz w g hs).trans f2)
  · exact h.elim
theorem vCall_ok {P T O Γ nt i o c f K cx rd0} (hO : OrcOk P O) (hd : dOk nt o) (ho : o.op = .call c) (hc : c.callee = .value cx) (hcal : ∀ (Δ : Nm → C) (a : Act) w g, (∀ n ∈ rd0, Δ n = Γ n) → Rel Δ nt a w g → a.eval cx = .func (.func f) #[] #[])
    (h : vCall T O Γ i o rd0 f c.argTypes.toList c.args.toList K) : Good P nt i o Γ K := by
  refine vCallG_ok (T := T) (caps := []) hO hd ho hc (fun Δ a w g hr r => ⟨[], hcal Δ a w g hr r, .nil⟩) ?_
  unfold vCall at h
  unfold vCallG
  simpa using h
/-! ### an own row that is handed over -/
/-- What is handed over is no longer one's own. -/
def Gh.rl (g : Gh) (p : Tag → Bool) : Gh := { o := fun b => if p (g.o b) = true then .other else g.o b, hd := g.hd, bk := g.bk }
/-- The ghosts of the callee. -/
def Gh.mc (g : Gh) (p : Tag → Bool) (v : Value) : Gh := { o := fun b => if p (g.o b) = true then .row 0 else if g.o b = .imm then .imm else .other, hd := fun _ => v, bk := g.bk }
/-- Behind the call. -/
def Gh.ma (g : Gh) (B : Nat) (g' : Gh) : Gh where
  o := fun b => if g.o b ≠ .other then g.o b else match g'.o b with | .row k => .row (B + k) | .imm => .imm | _ => .other
  hd := fun k => if B ≤ k ∧ k < B + 100 then g'.hd (k - B) else g.hd k
  bk := g.bk
def rowP (h : Nat) : Tag → Bool
  | .row k => decide (k = h)
  | _ => false
theorem rl_svr {w : World} {g : Gh} {p : Tag → Bool} (hp : p .imm = false) {v : Value} {x : SV} (r : SVR w g.o v x) : SVR w (g.rl p).o v x := r.mono fun b hb => ⟨by simp [Gh.rl, hb, hp], rfl⟩
theorem mc_svr {w : World} {g : Gh} {p : Tag → Bool} {u : Value} (hp : p .imm = false) {v : Value} {x : SV} (r : SVR w g.o v x) : SVR w (g.mc p u).o v x := r.mono fun b hb => ⟨by simp [Gh.mc, hb, hp], rfl⟩
theorem rl_tvr {w : World} {g : Gh} {p : Tag → Bool} (hp : p .imm = false) {v : Value} {x : TV} (r : TVR w g v x) : TVR w (g.rl p) v x := by
  cases x with
  | v x => exact rl_svr hp r
  | cp xs k => exact (rl_svr hp (CPR.svr r)).cpr
  | nn e xs => exact ⟨rl_svr hp r.1, r.2⟩
  | _ => exact r
theorem rl_xr {w : World} {g : Gh} {p : Tag → Bool} (hp : p .imm = false) {v : Value} {x : X} (r : XR w g v x) : XR w (g.rl p) v x := by
  have key : ∀ {v : Value} {x : PX}, PXR w g v x → PXR w (g.rl p) v x := fun {v x} r => by
    cases x with
    | one x => exact rl_tvr hp r
    | agg xs => obtain ⟨cs, h1, h2⟩ := r; exact ⟨cs, h1, h2.mono fun _ _ => rl_tvr hp⟩
  cases x with
  | p x => exact key r
  | tup xs => obtain ⟨vs, h1, h2⟩ := r; exact ⟨vs, h1, h2.mono fun _ _ => key⟩
theorem Rel.rlr {Γ nt a w g} (r : Rel Γ nt a w g) (h : Nat) : Rel (up Γ (.row h) .none) nt a w (g.rl (rowP h)) := by
  have hp : rowP h .imm = false := rfl
  refine ⟨r.size, r.df, fun b hb => r.tags b fun e => hb (by simp [Gh.rl, e]), r.gl.keep fun q => ⟨rfl, by simp [Gh.rl, q, hp]⟩, fun n => ?_⟩
  by_cases e : n = .row h
  · subst e; rw [up_same]; trivial
  · rw [up_ne e]
    have hc := r.cr n
    cases n with
    | t i => cases hg : Γ (.t i) <;> rw [hg] at hc <;> first | trivial | exact rl_xr hp hc
    | row k =>
      cases hg : Γ (.row k) <;> rw [hg] at hc <;> first | trivial | skip
      obtain ⟨m, vs, h1, h2, h3, h4⟩ := hc
      refine ⟨m, vs, h1, h2, h3.imp (fun q => ⟨q.1, fun b hb => ?_⟩) id, h4.mono fun _ _ => rl_svr hp⟩
      have hne : k ≠ h := fun hk => e (by rw [hk])
      simp [Gh.rl, q.2 b hb, rowP, hne]
    | box k =>
      cases hg : Γ (.box k) <;> rw [hg] at hc <;> first | trivial | skip
      obtain ⟨cur, h1, h2, h3⟩ := hc
      exact ⟨cur, h1, by simp [Gh.rl, h2, rowP], h3.mono fun _ _ => rl_tvr hp⟩
theorem sh_xr {w' : World} {g' ga : Gh} {B : Nat} (hi : ∀ b, g'.o b = .imm → ga.o b = .imm) (hh : ∀ k, k < 100 → ga.hd (B + k) = g'.hd k) {u : Value} {x : X} (hk : x.all TV.res = true) (hsz : x.all (TV.small 90) = true) (r : XR w' g' u x) : XR w' ga u (x.sh B) := by
  have k1 : ∀ {u : Value} {x : TV}, x.res = true → x.small 90 = true → TVR w' g' u x → TVR w' ga u (x.sh B) := fun {u x} h1 h2 r => by
    cases x with
    | v y => exact SVR.mono (fun b hb => ⟨hi b hb, rfl⟩) r
    | sr k =>
      simp [TV.small] at h2
      have r' : u = g'.hd k := r
      show u = ga.hd (B + k)
      rw [hh k (by omega)]; exact r'
    | _ => simp [TV.res] at h1
  have k2 : ∀ {u : Value} {x : PX}, x.all TV.res = true → x.all (TV.small 90) = true → PXR w' g' u x → PXR w' ga u (x.sh B) := fun {u x} h1 h2 r => by
    cases x with
    | one y => exact k1 (by simpa [PX.all] using h1) (by simpa [PX.all] using h2) r
    | agg xs =>
      obtain ⟨cs, hv, hall⟩ := r
      refine ⟨cs, hv, by simp [hall.1], fun j u y q1 q2 => ?_⟩
      simp only [List.getElem?_map] at q2
      cases hx : xs[j]? with
      | none => simp [hx] at q2
      | some z =>
        simp [hx] at q2
        subst q2
        have hmem := List.mem_of_getElem? hx
        exact k1 (List.all_eq_true.1 h1 z hmem) (List.all_eq_true.1 h2 z hmem) (hall.2 j u z q1 hx)
  cases x with
  | p y => exact k2 hk hsz r
  | tup xs =>
    obtain ⟨cs, hv, hall⟩ := r
    refine ⟨cs, hv, by simp [hall.1], fun j u y q1 q2 => ?_⟩
    simp only [List.getElem?_map] at q2
    cases hx : xs[j]? with
    | none => simp [hx] at q2
    | some z =>
      simp [hx] at q2
      subst q2
      have hmem := List.mem_of_getElem? hx
      exact k2 (List.all_eq_true.1 hk z hmem) (List.all_eq_true.1 hsz z hmem) (hall.2 j u z q1 hx)
theorem callM_core {Δ : Nm → C} {nt i : Nat} {a : Act} {w w' : World} {g g' : Gh} {p : Tag → Bool} {u : Value} {rows : Rows} {res : X} {v : Value} (h1 : p .imm = false) (h2 : p .other = false) (h3 : ∀ k, p (.box k) = false) (r : Rel Δ nt a w (g.rl p)) (ht : ∀ b, g.o b ≠ .other → b < w.heap.size) (hu : ∀ k, isTh i k → Unm Δ k)
    (hf : Fr w w' (g.mc p u).o g'.o) (hl : ∀ b, g'.o b ≠ .other → b < w'.heap.size) (hk : res.all TV.res = true) (hsz : res.all (TV.small 90) = true) (hrl : rows.length ≤ 90)
    (hx : XR w' g' v res) (hrows : ∀ k ty e xs, rows[k]? = some (ty, e, xs) → RowR w' g' k ty e xs) :
    Rel (ups Δ (rowsW (th i 0) 0 rows)) nt a w' ((g.rl p).ma (th i 0) g') ∧ Fr w w' g.o ((g.rl p).ma (th i 0) g').o ∧ XR w' ((g.rl p).ma (th i 0) g') v (res.sh (th i 0)) := by
  have hnotth : ∀ k, ¬ Unm Δ k → ¬ (th i 0 ≤ k ∧ k < th i 0 + 100) := fun k hk hc => hk (hu k (by unfold isTh; unfold th at hc; omega))
  have hrl' : ∀ b, (g.rl p).o b ≠ .other → p (g.o b) = false ∧ (g.rl p).o b = g.o b := fun b hb => by
    simp only [Gh.rl] at hb ⊢
    split at hb
    · exact absurd rfl hb
    · rename_i hq
      exact ⟨by simpa using hq, by rw [if_neg hq]⟩
  have hold : ∀ b, (g.rl p).o b ≠ .other → w'.heap[b]? = w.heap[b]? ∧ g'.o b = (g.mc p u).o b ∧ ((g.mc p u).o b = .imm → g.o b = .imm) ∧ ((g.mc p u).o b = .imm ∨ (g.mc p u).o b = .other) := fun b hb => by
    obtain ⟨q1, q2⟩ := hrl' b hb
    have hb' : b < w.heap.size := r.tags b hb
    have hm : (g.mc p u).o b = if g.o b = .imm then .imm else .other := by simp [Gh.mc, q1]
    have hcase : (g.mc p u).o b = .imm ∨ (g.mc p u).o b = .other := by rw [hm]; split <;> simp
    have := hf.keep b hb' (hcase.symm)
    have himm : (g.mc p u).o b = .imm → g.o b = .imm := fun hi => by
      rw [hm] at hi
      split at hi
      · assumption
      · cases hi
    exact ⟨this.1, this.2, himm, hcase⟩
  have hma : ∀ b, (g.rl p).o b ≠ .other → ((g.rl p).ma (th i 0) g').o b = (g.rl p).o b := fun b hb => by simp [Gh.ma, hb]
  have hmo : ∀ b, (g.rl p).o b = .other → ((g.rl p).ma (th i 0) g').o b = match g'.o b with | .row k => .row (th i 0 + k) | .imm => .imm | _ => .other := fun b hb => by simp [Gh.ma, hb]
  have hi : ∀ b, g'.o b = .imm → ((g.rl p).ma (th i 0) g').o b = .imm := fun b hb => by
    by_cases ho : (g.rl p).o b = .other
    · rw [hmo b ho, hb]
    · obtain ⟨_, q2, q3, _⟩ := hold b ho
      rw [hma b ho, (hrl' b ho).2]
      exact q3 (by rw [← q2]; exact hb)
  have hh : ∀ k, k < 100 → ((g.rl p).ma (th i 0) g').hd (th i 0 + k) = g'.hd k := fun k hk => by simp only [Gh.ma]; rw [if_pos (by omega)]; congr 1; omega
  have ext : Ext w w' (g.rl p) ((g.rl p).ma (th i 0) g') none fun k => ¬ Unm Δ k :=
    ⟨hf.size, fun b hb _ => ⟨(hold b hb).1, hma b hb⟩,
      fun b hb => by
        by_cases ho : (g.rl p).o b = .other
        · refine hl b fun e => hb ?_
          rw [hmo b ho, e]
        · exact Nat.lt_of_lt_of_le (r.tags b ho) hf.size,
      fun k hk => by simp only [Gh.ma]; rw [if_neg (hnotth k hk)], fun k _ => rfl⟩
  refine ⟨rel_rowsW (r.ext ext) fun j ty e xs hj => ?_, ⟨hf.os, hf.tape, hf.output, hf.size, fun b hb ho => ?_, fun b hb ⟨k, hk⟩ => ?_⟩, sh_xr hi hh hk hsz hx⟩
  · obtain ⟨n, vs, he, hn, ho', hall⟩ := hrows j ty e xs hj
    have hjl : j < rows.length := (List.getElem?_eq_some_iff.1 hj).1
    have hhd : ((g.rl p).ma (th i 0) g').hd (th i 0 + (0 + j)) = g'.hd j := by rw [Nat.zero_add]; exact hh j (by omega)
    refine ⟨n, vs, he, hn, ?_, hall.mono fun u x q => q.mono fun b hb => ⟨hi b hb, rfl⟩⟩
    unfold OwnR
    rw [hhd]
    rcases ho' with ⟨ho, htag⟩ | hz
    case inr => exact .inr hz
    refine .inl ⟨ho, fun b hb => ?_⟩
    have ht' := htag b hb
    have hnl : (g.rl p).o b = .other := Decidable.byContradiction fun hne => by
      obtain ⟨_, q2, _, q4⟩ := hold b hne
      rw [ht'] at q2
      rcases q4 with q | q <;> rw [q] at q2 <;> cases q2
    rw [hmo b hnl, ht', Nat.zero_add]
  · have hg : (g.rl p).o b = g.o b := by rcases ho with ho | ho <;> simp [Gh.rl, ho, h1, h2]
    rcases ho with ho | ho
    · have hm : (g.mc p u).o b = .other := by simp [Gh.mc, ho, h2]
      have := hf.keep b hb (.inl hm)
      refine ⟨this.1, ?_⟩
      rw [hmo b (by rw [hg, ho]), this.2, hm, ho]
    · have hne : (g.rl p).o b ≠ .other := by rw [hg, ho]; simp
      exact ⟨(hold b hne).1, by rw [hma b hne, hg]⟩
  · have hg : (g.rl p).o b = .box k := by simp [Gh.rl, hk, h3]
    have hne : (g.rl p).o b ≠ .other := by rw [hg]; simp
    exact ⟨by rw [hma b hne, hg]; rfl, Shp.of_eq (hold b hne).1⟩
def moveK (O : Orc) (i : Nat) (o : Oper) (rd : List Nm) (f : Nat) (row : Nat × Nat × List SV) (zs : List X) (W : List (Nm × C)) (K : List Nm → List (Nm × C) → Prop) : Prop :=
  O.m f row zs fun res rows => res.all (TV.small 90) = true ∧ rows.length ≤ 90 ∧ K rd (putT o.dst (res.sh (th i 0)) ++ (rowsW (th i 0) 0 rows ++ W))
def vCallM (T : Tab) (O : Orc) (Γ : Nm → C) (i : Nat) (o : Oper) (rd0 : List Nm) (f : Nat) (ts : List Nat) (xs : List Operand) (K : List Nm → List (Nm × C) → Prop) : Prop :=
  match xs with
  | x :: r => match nlAs T (ts.headD 0) (opX Γ x), argsV T Γ (ts.drop 1) r with
    | .p (.one (.sr h)), some (zs, hs) => match Γ (.row h) with
      | .row ty e ys => h ∉ hs ∧ moveK O i o (rd0 ++ (opR x ++ r.flatMap opR ++ .row h :: hs.map .row)) f (ty, e, ys) zs ((.row h, .none) :: frzW hs) K
      | _ => False
    | .p (.one (.nl ty e)), some (zs, hs) => 0 < e ∧ moveK O i o (rd0 ++ (opR x ++ r.flatMap opR ++ hs.map .row)) f (ty, e, []) zs (frzW hs) K
    | _, _ => False
  | [] => False
theorem callM_run {P : Program} {f : Nat} {row : Nat × Nat × List SV} {args : List X} {res : X} {rows : Rows} {o : Oper} {c : Call} {cx : Operand} (hcall : CallM P f row args res rows) (ho : o.op = .call c) (hc : c.callee = .value cx) (a : Act) (w : World) (hcx : a.eval cx = .func (.func f) #[] #[]) :
    (execOp a.eval o).run P w = .ok (.enter f (c.args.map a.eval)) w := by
  have := hcall.callable (c.args.map a.eval) w
  have e1 : execOp a.eval o = (do let d ← resolve a.eval c o.type; invoke d.target d.args) := by simp only [execOp, ho]
  have e2 : (resolve a.eval c o.type).run P w = .ok { target := .fn (.func f) #[], args := c.args.map a.eval } w := by
    unfold resolve
    rw [hc]
    simp only [hcx]
    show (Deferred.ofValue (.func (.func f) #[] #[]) (c.args.map a.eval)).run P w = _
    simp [Deferred.ofValue]
  rw [e1, run_bind_ok e2]
  unfold invoke
  simpa using this
theorem mc_sval {w : World} {g : Gh} {p : Tag → Bool} {u0 : Value} (hp : p .imm = false) {u : Value} {x : X} (hs : SVal x) (h : XR w g u x) : XR w (g.mc p u0) u x := by
  cases x with
  | tup xs => exact hs.elim
  | p q => cases q with
    | one y => cases y <;> first | exact mc_svr hp h | exact absurd hs (by simp [SVal])
    | agg xs =>
      obtain ⟨cs, hv, hall⟩ := h
      refine ⟨cs, hv, hall.mono' fun u y hy hr => ?_⟩
      obtain ⟨z, rfl⟩ := hs y hy
      exact mc_svr hp hr
theorem moveK_ok {P : Program} {O : Orc} {T : Tab} {Γ : Nm → C} {nt i : Nat} {o : Oper} {c : Call} {cx x : Operand} {r : List Operand} {f : Nat} {row : Nat × Nat × List SV} {zs : List X} {hs : List Nat} {W : List (Nm × C)} {rd : List Nm} {K : List Nm → List (Nm × C) → Prop} {p : Tag → Bool}
    (hO : OrcOk P O) (hd : dOk nt o) (ho : o.op = .call c) (hc : c.callee = .value cx) (hxs : c.args.toList = x :: r) (h1 : p .imm = false) (h2 : p .other = false) (h3 : ∀ k, p (.box k) = false) (hargs : argsV T Γ (c.argTypes.toList.drop 1) r = some (zs, hs))
    (hrd : ∀ n ∈ r.flatMap opR, n ∈ rd) (hrd2 : ∀ k ∈ hs, Nm.row k ∈ rd)
    (hcal : ∀ (Δ : Nm → C) (a : Act) w g, (∀ n ∈ rd, Δ n = Γ n) → Rel Δ nt a w g → a.eval cx = .func (.func f) #[] #[])
    (hrel : ∀ (Δ : Nm → C) (a : Act) w g, (∀ n ∈ rd, Δ n = Γ n) → Rel Δ nt a w g → Rel (ups Δ W) nt a w ((g.frz hs).rl p) ∧ RowR w ((g.frz hs).mc p (a.eval x)) 0 row.1 row.2.1 row.2.2)
    (hW : ∀ (Δ : Nm → C) k, Unm Δ k → Unm (ups Δ W) k)
    (h : moveK O i o rd f row zs W K) : Good P nt i o Γ K := by
  unfold moveK at h
  obtain ⟨res, rows, hcall, hsz, hrl, h⟩ := hO.m _ _ _ _ h
  refine ⟨_, _, ?_, h⟩
  intro Δ a w g Q K' hr hu r0 hk
  have hcx := hcal Δ a w g hr r0
  obtain ⟨r1, hrow⟩ := hrel Δ a w g hr r0
  have harg := argsV_rel (hs := hs) r0 hargs (fun n hn => hr n (hrd n hn)) (fun k hk => hr _ (hrd2 k hk)) (fun k hk => hk)
  have hsv := argsV_sval hargs
  have hall : All2 (XR w ((g.frz hs).mc p (a.eval x))) (c.args.toList.map a.eval) (.p (.one (.sr 0)) :: zs) := by
    rw [hxs]
    exact .cons rfl (harg.mono' fun u y hy => mc_sval h1 (hsv y hy))
  have hlt : ∀ b, (g.frz hs).o b ≠ .other → b < w.heap.size := fun b hb => r0.tags b fun e => hb (frz_other.2 e)
  have hcl := hcall.calls w (c.args.toList.map a.eval) ((g.frz hs).mc p (a.eval x)) (fun b => by
    simp only [Gh.mc]
    by_cases q1 : p ((g.frz hs).o b) = true
    · rw [if_pos q1]; exact .inr (.inr rfl)
    · rw [if_neg q1]
      by_cases q2 : (g.frz hs).o b = .imm
      · rw [if_pos q2]; exact .inr (.inl rfl)
      · rw [if_neg q2]; exact .inl rfl) (fun b hb => by
    refine hlt b fun e => hb ?_
    simp only [Gh.mc, e, h2]
    simp) (r0.gl.keep fun q => ⟨rfl, by simp [Gh.mc, Gh.frz, q, h1]⟩) hall hrow
  unfold Oper.wp
  rw [callM_run hcall ho hc a w hcx]
  show Calls P f (c.args.map a.eval) w _
  have e : (c.args.toList.map a.eval).toArray = c.args.map a.eval := by rw [← Array.toList_map]
  rw [e] at hcl
  refine hcl.mono fun en w' hh => ?_
  obtain ⟨v, g', rfl, q1, q2, q3, q4⟩ := hh
  obtain ⟨r2, f2, x2⟩ := callM_core (i := i) h1 h2 h3 r1 hlt (fun k hk => hW Δ k (hu k hk)) q1 q2 hcall.resok hsz hrl q3 q4
  rw [← ups_append] at r2
  exact hk _ _ _ (rel_putT' (Γ := Δ) hd r2 x2) ((Fr.frz w g hs).trans f2)
theorem vCallM_ok {P T O Γ nt i o c f K cx rd0} (hO : OrcOk P O) (hd : dOk nt o) (ho : o.op = .call c) (hc : c.callee = .value cx) (hcal : ∀ (Δ : Nm → C) (a : Act) w g, (∀ n ∈ rd0, Δ n = Γ n) → Rel Δ nt a w g → a.eval cx = .func (.func f) #[] #[])
    (h : vCallM T O Γ i o rd0 f c.argTypes.toList c.args.toList K) : Good P nt i o Γ K := by
  unfold vCallM at h
  split at h
  · rename_i x r hxs
    split at h
    · rename_i hh zs hs hx hargs
      split at h
      · rename_i ty e ys hrow
        obtain ⟨hnot, h⟩ := h
        refine moveK_ok (p := rowP hh) hO hd ho hc hxs rfl rfl (fun _ => rfl) hargs (fun n hn => by simp only [List.mem_append]; exact .inr (.inl (.inr hn))) (fun k hk => by simp [hk]) (fun Δ a w g hr r => hcal Δ a w g (fun n hn => hr n (by simp [hn])) r) (fun Δ a w g hr r => ?_) (fun Δ k u => ?_) h
        · have hx1 := opX_rel r x
          rw [opX_congr (Γ := Γ) fun n hn => hr n (by simp [hn])] at hx1
          have hx2 := nlAs_rel (T := T) (t := c.argTypes.toList.headD 0) hx1
          rw [hx] at hx2
          have hv : a.eval x = g.hd hh := hx2
          refine ⟨(r.frz hs).rlr hh, ?_⟩
          obtain ⟨n, vs, he, hn, ho', hall⟩ := r.row (h := hh) (by rw [hr _ (by simp), hrow])
          refine ⟨n, vs, he, hn, ?_, hall.mono fun u y q => mc_svr rfl (frz_svr q)⟩
          unfold OwnR
          show (w.ownsRow 0 ty e (a.eval x) n vs ∧ _) ∨ _
          rw [hv]
          rcases ho' with ⟨q1, q2⟩ | q
          · refine .inl ⟨q1, fun b hb => ?_⟩
            have := q2 b hb
            simp [Gh.mc, Gh.frz, this, hnot, rowP]
          · exact .inr q
        · have := u.frzW (hs := hs)
          intro n
          by_cases e1 : n = .row hh
          · subst e1; simp only [ups]; rw [up_same]; exact ⟨by simp [C.ment], fun _ => rfl⟩
          · simp only [ups]; rw [up_ne e1]; exact this n
      · exact h.elim
    · rename_i ty e zs hs hx hargs
      obtain ⟨he, h⟩ := h
      refine moveK_ok (p := fun _ => false) hO hd ho hc hxs rfl rfl (fun _ => rfl) hargs (fun n hn => by simp only [List.mem_append]; exact .inr (.inl (.inr hn))) (fun k hk => by simp [hk]) (fun Δ a w g hr r => hcal Δ a w g (fun n hn => hr n (by simp [hn])) r) (fun Δ a w g hr r => ?_) (fun Δ k u => u.frzW) h
      have hx1 := opX_rel r x
      rw [opX_congr (Γ := Γ) fun n hn => hr n (by simp [hn])] at hx1
      have hx2 := nlAs_rel (T := T) (t := c.argTypes.toList.headD 0) hx1
      rw [hx] at hx2
      have hv : a.eval x = .slice none 0 0 := hx2
      have e1 : (g.frz hs).rl (fun _ => false) = g.frz hs := by
        show Gh.mk _ _ _ = _
        simp
      refine ⟨by rw [e1]; exact r.frz hs, 0, [], he, by simp, .inl ⟨?_, fun b hb => ?_⟩, .nil⟩
      · show w.ownsRow 0 ty e (a.eval x) 0 []
        rw [hv]; exact World.ownsRow_nil w 0 ty e
      · have hb' : (a.eval x).ownBlock = some b := hb
        rw [hv] at hb'; simp [Value.ownBlock] at hb'
    · exact h.elim
  · exact h.elim
/-! ### a row sorted in its place -/
def vCallS (T : Tab) (O : Orc) (Γ : Nm → C) (i : Nat) (o : Oper) (rd0 : List Nm) (f : Nat) (ts : List Nat) (xs : List Operand) (K : List Nm → List (Nm × C) → Prop) : Prop :=
  match xs with
  | x :: r => match opX Γ x, argsV T Γ (ts.drop 1) r with
    | .p (.one (.sr h)), some (zs, hs) => match Γ (.row h) with
      | .row ty e ys => h ∉ hs ∧ O.s f (ty, e, ys) zs fun ys' => K (rd0 ++ (opR x ++ r.flatMap opR ++ .row h :: hs.map .row)) (putT o.dst (.p (.one .dead)) ++ ((.row h, .row ty e ys') :: (.row h, .none) :: frzW hs))
      | _ => False
    | _, _ => False
  | [] => False
theorem callS_run {P : Program} {f : Nat} {row : Nat × Nat × List SV} {args : List X} {ys : List SV} {o : Oper} {c : Call} {cx : Operand} (hcall : CallS P f row args ys) (ho : o.op = .call c) (hc : c.callee = .value cx) (a : Act) (w : World) (hcx : a.eval cx = .func (.func f) #[] #[]) :
    (execOp a.eval o).run P w = .ok (.enter f (c.args.map a.eval)) w := by
  have := hcall.callable (c.args.map a.eval) w
  have e1 : execOp a.eval o = (do let d ← resolve a.eval c o.type; invoke d.target d.args) := by simp only [execOp, ho]
  have e2 : (resolve a.eval c o.type).run P w = .ok { target := .fn (.func f) #[], args := c.args.map a.eval } w := by
    unfold resolve
    rw [hc]
    simp only [hcx]
    show (Deferred.ofValue (.func (.func f) #[] #[]) (c.args.map a.eval)).run P w = _
    simp [Deferred.ofValue]
  rw [e1, run_bind_ok e2]
  unfold invoke
  simpa using this
theorem vCallS_ok {P T O Γ nt i o c f K cx rd0} (hO : OrcOk P O) (hd : dOk nt o) (ho : o.op = .call c) (hc : c.callee = .value cx) (hcal : ∀ (Δ : Nm → C) (a : Act) w g, (∀ n ∈ rd0, Δ n = Γ n) → Rel Δ nt a w g → a.eval cx = .func (.func f) #[] #[])
    (h : vCallS T O Γ i o rd0 f c.argTypes.toList c.args.toList K) : Good P nt i o Γ K := by
  unfold vCallS at h
  split at h
  case h_2 => exact h.elim
  rename_i x r hxs
  split at h
  case h_2 => exact h.elim
  rename_i hh zs hs hx hargs
  split at h
  case h_2 => exact h.elim
  rename_i ty e ys hrow
  obtain ⟨hnot, h⟩ := h
  obtain ⟨ys', hcall, h⟩ := hO.s _ _ _ _ h
  refine ⟨_, _, ?_, h⟩
  intro Δ a w g Q K' hr hu r0 hk
  have hcx := hcal Δ a w g (fun n hn => hr n (by simp [hn])) r0
  have hx1 := opX_rel r0 x
  rw [opX_congr (Γ := Γ) fun n hn => hr n (by simp [hn]), hx] at hx1
  have hv : a.eval x = g.hd hh := hx1
  have h1 : rowP hh .imm = false := rfl
  have r1 := (r0.frz hs).rlr hh
  have hrow0 : RowR w ((g.frz hs).mc (rowP hh) (a.eval x)) 0 ty e ys := by
    obtain ⟨n, vs, he, hn, ho', hall⟩ := r0.row (h := hh) (by rw [hr _ (by simp), hrow])
    refine ⟨n, vs, he, hn, ?_, hall.mono fun u y q => mc_svr rfl (frz_svr q)⟩
    unfold OwnR
    show (w.ownsRow 0 ty e (a.eval x) n vs ∧ _) ∨ _
    rw [hv]
    rcases ho' with ⟨q1, q2⟩ | q
    · refine .inl ⟨q1, fun b hb => ?_⟩
      have := q2 b hb
      simp [Gh.mc, Gh.frz, this, hnot, rowP]
    · exact .inr q
  have harg := argsV_rel (hs := hs) r0 hargs (fun n hn => hr n (by simp only [List.mem_append]; exact .inr (.inl (.inr hn)))) (fun k hk => hr _ (by simp [hk])) (fun k hk => hk)
  have hsv := argsV_sval hargs
  have hall : All2 (XR w ((g.frz hs).mc (rowP hh) (a.eval x))) (c.args.toList.map a.eval) (.p (.one (.sr 0)) :: zs) := by
    rw [hxs]
    exact .cons rfl (harg.mono' fun u y hy => mc_sval h1 (hsv y hy))
  have hlt : ∀ b, (g.frz hs).o b ≠ .other → b < w.heap.size := fun b hb => r0.tags b fun e => hb (frz_other.2 e)
  have hcl := hcall.calls w (c.args.toList.map a.eval) ((g.frz hs).mc (rowP hh) (a.eval x)) (fun b => by
    simp only [Gh.mc]
    by_cases q1 : rowP hh ((g.frz hs).o b) = true
    · rw [if_pos q1]; exact .inr (.inr rfl)
    · rw [if_neg q1]
      by_cases q2 : (g.frz hs).o b = .imm
      · rw [if_pos q2]; exact .inr (.inl rfl)
      · rw [if_neg q2]; exact .inl rfl) (fun b hb => by
    refine hlt b fun e => hb ?_
    simp [Gh.mc, e, rowP]) (r0.gl.keep fun q => ⟨rfl, by simp [Gh.mc, Gh.frz, q, rowP]⟩) hall hrow0
  unfold Oper.wp
  rw [callS_run hcall ho hc a w hcx]
  show Calls P f (c.args.map a.eval) w _
  have earr : (c.args.toList.map a.eval).toArray = c.args.map a.eval := by rw [← Array.toList_map]
  rw [earr] at hcl
  refine hcl.mono fun en w' hh' => ?_
  obtain ⟨v, rfl, q1, q2⟩ := hh'
  have hkeep : ∀ b, b < w.heap.size → rowP hh ((g.frz hs).o b) = false → w'.heap[b]? = w.heap[b]? := fun b hb hp => by
    refine (q1.keep b hb ?_).1
    simp only [Gh.mc, hp, Bool.false_eq_true, if_false]
    by_cases q : (g.frz hs).o b = .imm
    · rw [if_pos q]; exact .inr rfl
    · rw [if_neg q]; exact .inl rfl
  have ext : Ext w w' ((g.frz hs).rl (rowP hh)) (g.frz hs) none fun k => ¬ Unm (ups Δ ((.row hh, .none) :: frzW hs)) k := by
    refine ⟨q1.size, fun b hb _ => ?_, fun b hb => Nat.lt_of_lt_of_le (hlt b hb) q1.size, fun k _ => rfl, fun k _ => rfl⟩
    have hp : rowP hh ((g.frz hs).o b) = false := by
      cases q : rowP hh ((g.frz hs).o b) with
      | false => rfl
      | true => exact absurd (by simp [Gh.rl, q]) hb
    have ho2 : ((g.frz hs).rl (rowP hh)).o b = (g.frz hs).o b := by simp [Gh.rl, hp]
    rw [ho2] at hb ⊢
    exact ⟨hkeep b (hlt b hb) hp, rfl⟩
  have r2 := r1.ext ext
  have hrow2 : RowR w' (g.frz hs) hh ty e ys' := by
    obtain ⟨n, vs, he, hn, ho', hall'⟩ := q2
    refine ⟨n, vs, he, hn, ?_, hall'.mono fun u y q => q.mono fun b hb => ⟨?_, rfl⟩⟩
    · unfold OwnR at ho' ⊢
      have ehd : (g.frz hs).hd hh = a.eval x := hv.symm
      rw [ehd]
      rcases ho' with ⟨z1, z2⟩ | z
      · refine .inl ⟨z1, fun b hb => ?_⟩
        have := z2 b hb
        simp only [Gh.mc] at this
        split at this
        · rename_i hp
          generalize (g.frz hs).o b = tg at hp
          cases tg <;> simp [rowP] at hp
          rw [hp]
        · split at this <;> cases this
      · exact .inr z
    · simp only [Gh.mc] at hb
      split at hb
      · cases hb
      · split at hb
        · assumption
        · cases hb
  have r3 : Rel (ups Δ ((.row hh, .row ty e ys') :: (.row hh, .none) :: frzW hs)) nt a w' (g.frz hs) := r2.upd (n := .row hh) (c := .row ty e ys') hrow2
  have f2 : Fr w w' (g.frz hs).o (g.frz hs).o := by
    refine ⟨q1.os, q1.tape, q1.output, q1.size, fun b hb ho2 => ⟨hkeep b hb ?_, rfl⟩, fun b hb ⟨k, hk2⟩ => ⟨by rw [hk2]; rfl, Shp.of_eq (hkeep b hb ?_)⟩⟩
    · rcases ho2 with q | q <;> rw [q] <;> rfl
    · rw [hk2]; rfl
  exact hk _ _ _ (rel_putT' (Γ := Δ) hd r3 (x := .p (.one .dead)) trivial) ((Fr.frz w g hs).trans f2)
end Go.Proofs.YtdpflafjfkooeaaGreatDoorG
