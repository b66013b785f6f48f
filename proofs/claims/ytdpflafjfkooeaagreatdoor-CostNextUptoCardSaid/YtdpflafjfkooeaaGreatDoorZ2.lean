/- YtdpflafjfkooeaaGreatDoorZ2: a part of the proof, joined of its texts. -/
import Derived.Test.YtdpflafjfkooeaaGreatDoorZ1
/- G3: operations that read: loads, addresses, parts, lengths, cuts, tests. -/
namespace Go.Proofs.YtdpflafjfkooeaaGreatDoorG
open Go Go.RowKit
set_option linter.unusedVariables false
set_option linter.unusedSimpArgs false
theorem run_bind_ok {α β : Type} {P : Program} {m : Sem α} {f : α → Sem β} {w w' : World} {a : α} (h : m.run P w = .ok a w') : (m >>= f).run P w = (f a).run P w' := by
  rw [Sem.run_bind, h]; rfl
theorem run_v {P : Program} {m : Sem Value} {w w' : World} {v : Value} (h : m.run P w = .ok v w') : (do pure (.value (← m)) : Sem Next).run P w = .ok (.value v) w' := by
  rw [run_bind_ok h]; rfl
theorem run_u {P : Program} {m : Sem Unit} {w w' : World} (h : m.run P w = .ok () w') : (do m; pure .skip : Sem Next).run P w = .ok .skip w' := by
  rw [run_bind_ok h]; rfl
theorem TIok.run_size {P t i} (h : TIok P t i) (w : World) : (sizeOf t).run P w = .ok i.size w := by
  obtain ⟨j, z, hj, hs, _⟩ := h.info'
  simp [sizeOf, typeInfo, hj, hs, go_sem]
theorem TIok.run_isAgg {P t i} (h : TIok P t i) (w : World) : (isAgg t).run P w = .ok i.k.agg w := by
  obtain ⟨d, hd, hk⟩ := h.und'
  rw [← hk]
  unfold isAgg
  rw [run_bind_ok (run_underlying hd w)]
  cases d <;> rfl
theorem TIok.run_zero {P t i} (h : TIok P t i) (w : World) : ∃ z, (zeroValue t).run P w = .ok z w ∧ z.cells.toList = i.zero.map ZC.val := by
  obtain ⟨j, z, hj, hs, hb, hz, hc⟩ := h.info'
  exact ⟨z, by simp [zeroValue, typeInfo, hj, hz, go_sem], hc⟩
theorem run_load_cell {P : Program} {w : World} {a : Addr} {v : Value} (h : w.cell? a = some v) : (load a).run P w = .ok v w := by
  simp [load, Sem.run, h]
theorem run_loadVar_one {P t i} (h : TIok P t i) (hk : i.k.agg = false) {w : World} {a : Addr} {v : Value} (hc : w.cell? a = some v) : (loadVar t a).run P w = .ok v w := by
  unfold loadVar
  rw [run_bind_ok (h.run_isAgg w), hk]
  exact run_load_cell hc
theorem run_loadVar_agg {P t i} (h : TIok P t i) (hk : i.k.agg = true) {w : World} {a : Addr} {cs : List Value} (hn : cs.length = i.size) (hc : ∀ j v, cs[j]? = some v → w.cell? (a.add j) = some v) :
    (loadVar t a).run P w = .ok (.agg cs.toArray) w := by
  unfold loadVar
  rw [run_bind_ok (h.run_isAgg w), hk, if_pos rfl, run_bind_ok (h.run_size w), ← hn, run_bind_ok (run_loadCells_list (P := P) w a cs hc)]
  rfl
/-! ### reading cells of something -/
def svAt (xs : List SV) (j : Nat) : SV := xs.getD j (.raw (.bool false))
/-- Cells from `off` on at an address of block b, row of contents. -/
structure Cells (w : World) (g : Gh) (u : Value) (xs : List TV) (k : Nat) : Prop where
  out : ∃ b off, ∃ us : List Value, u = .pointer (some ⟨b, off + k, none⟩) ∧ (∀ j u, us[j]? = some u → w.cell? ⟨b, off + j, none⟩ = some u) ∧ All2 (TVR w g) us xs
theorem Cells.one {P t i} (h : TIok P t i) (hk : i.k.agg = false) {w g u xs k x} (hc : Cells w g u xs k) (hx : xs[k]? = some x) : ∃ v, (Instr.loadAt t u).run P w = .ok v w ∧ TVR w g v x := by
  obtain ⟨b, off, us, rfl, h1, h2⟩ := hc.out
  have hlt : k < us.length := by rw [h2.1]; exact (List.getElem?_eq_some_iff.1 hx).1
  obtain ⟨v, hv⟩ : ∃ v, us[k]? = some v := ⟨us[k], List.getElem?_eq_getElem hlt⟩
  refine ⟨v, ?_, h2.2 k v x hv hx⟩
  simp only [Instr.loadAt, Instr.sureAddr]
  exact run_loadVar_one h hk (h1 k v hv)
theorem Cells.agg {P t i} (h : TIok P t i) (hk : i.k.agg = true) {w g u xs k} (hc : Cells w g u xs k) (hx : k + i.size ≤ xs.length) : ∃ v, (Instr.loadAt t u).run P w = .ok v w ∧ PXR w g v (.agg ((xs.drop k).take i.size)) := by
  obtain ⟨b, off, us, rfl, h1, h2⟩ := hc.out
  have hl := h2.1
  refine ⟨.agg ((us.drop k).take i.size).toArray, ?_, ⟨_, rfl, by simpa using (h2.drop k).take i.size⟩⟩
  simp only [Instr.loadAt, Instr.sureAddr]
  refine run_loadVar_agg h hk (by simp; omega) fun j v hj => ?_
  rw [List.getElem?_take] at hj
  split at hj
  · rw [List.getElem?_drop] at hj
    rw [Addr.add_lit, Nat.add_assoc]
    exact h1 _ v hj
  · cases hj
theorem CPR.cells {w g u xs k} (h : CPR w g.o u xs k) : Cells w g u (xs.map .v) k := by
  obtain ⟨b, off, us, hu, hb, hl, hc, hr⟩ := h
  refine ⟨b, off, us, hu, hc, by simp [hl], fun j v x h1 h2 => ?_⟩
  rw [List.getElem?_map] at h2
  cases hx : xs[j]? with
  | none => simp [hx] at h2
  | some y => simp [hx] at h2; subst h2; exact hr j v y h1 hx
theorem cell_of_cells {w : World} {b j : Nat} {cur : Array Value} {ty : Nat} {f : Nat × Nat} {u : Value} (h : w.heap[b]? = some (.cells cur ty f)) (hu : cur[j]? = some u) : w.cell? ⟨b, j, none⟩ = some u := by
  simp [World.cell?, h, hu]
theorem BoxR.cells {w g h ty xs} (r : BoxR w g h ty xs) (k : Nat) : Cells w g (.pointer (some ⟨g.bk h, k, none⟩)) xs k := by
  obtain ⟨cur, h1, h2, h3⟩ := r
  exact ⟨g.bk h, 0, cur.toList, by simp, fun j u hu => by rw [Nat.zero_add]; exact cell_of_cells h1 (by simpa using hu), h3⟩
theorem All2.svTv {w g us xs} (h : All2 (SVR w g.o) us xs) : All2 (TVR w g) us (xs.map .v) := by
  refine ⟨by simp [h.1], fun j v x h1 h2 => ?_⟩
  rw [List.getElem?_map] at h2
  cases hx : xs[j]? with
  | none => simp [hx] at h2
  | some y => simp [hx] at h2; subst h2; exact h.2 j v y h1 hx
theorem RowR.cells {w g h ty e xs b n cap} (r : RowR w g h ty e xs) (hb : g.hd h = .slice (some ⟨b, 0, none⟩) n cap) (k : Nat) : Cells w g (.pointer (some ⟨b, k, none⟩)) (xs.map .v) k := by
  obtain ⟨m, vs, he, hn, ho', ha⟩ := r
  refine ⟨b, 0, vs, by simp, fun j u hu => ?_, ha.svTv⟩
  rcases ho' with ⟨ho, hg⟩ | ⟨_, q2, _⟩
  case inr => subst q2; simp at hu
  have := ho.cells (g := b) (by rw [hb]; rfl) j u hu
  rwa [Addr.add_lit] at this
/-- What a pointer content points to. -/
def ptrTo (Γ : Nm → C) (x : X) : Option (List TV × Nat × List Nm) :=
  match x with
  | .p (.one (.pr h off)) => match Γ (.box h) with | .box ty xs => some (xs, off, [.box h]) | _ => none
  | .p (.one (.er h j)) => match Γ (.row h) with | .row ty e xs => some (xs.map .v, j, [.row h]) | _ => none
  | .p (.one (.cp xs k)) => some (xs.map .v, k, [])
  | .p (.one (.v (.pt xs k))) => some (xs.map .v, k, [])
  | _ => none
theorem ptrTo_cells {Γ Δ nt a w g u x xs k rd} (h : ptrTo Γ x = some (xs, k, rd)) (hr : ∀ n ∈ rd, Δ n = Γ n) (r : Rel Δ nt a w g) (hx : XR w g u x) : Cells w g u xs k := by
  unfold ptrTo at h
  split at h
  · rename_i hh off
    split at h
    · rename_i ty ys hb
      cases h
      have hx' : u = .pointer (some ⟨g.bk hh, k, none⟩) := hx
      rw [hx']
      exact (r.box (by rw [hr _ (by simp), hb])).cells k
    · cases h
  · rename_i hh j
    split at h
    · rename_i ty e ys hb
      cases h
      obtain ⟨b, n, cap, h1, h2⟩ : ∃ b n cap, g.hd hh = .slice (some ⟨b, 0, none⟩) n cap ∧ u = .pointer (some ⟨b, k, none⟩) := hx
      rw [h2]
      exact (r.row (by rw [hr _ (by simp), hb])).cells h1 k
    · cases h
  · cases h
    exact CPR.cells hx
  · cases h
    exact CPR.cells (SVR.cpr hx)
  · cases h
/-- One cell, by what it is. -/
def tvAt (xs : List TV) (j : Nat) : TV := xs.getD j .dead
def vLoad (T : Tab) (Γ : Nm → C) (o : Oper) (t : Nat) (x : Operand) (K : List Nm → List (Nm × C) → Prop) : Prop :=
  match ptrTo Γ (opX Γ x), T t with
  | some (xs, k, rd), some i =>
    k + i.size ≤ xs.length ∧ if i.k.agg then K (opR x ++ rd) (putT o.dst (.p (.agg ((List.range i.size).map fun j => tvAt xs (k + j)))))
    else i.size = 1 ∧ K (opR x ++ rd) (putT o.dst (.p (.one (tvAt xs k))))
  | _, _ => False
theorem slice_eq_map (xs : List TV) (k n : Nat) (h : k + n ≤ xs.length) : (xs.drop k).take n = (List.range n).map fun j => tvAt xs (k + j) := by
  apply List.ext_getElem?
  intro j
  rw [List.getElem?_take, List.getElem?_map]
  by_cases hj : j < n
  · have : k + j < xs.length := by omega
    simp [hj, tvAt, List.getD, List.getElem?_eq_getElem this]
  · simp [hj]
theorem vLoad_ok {P T Γ nt i o t x K} (hT : Tok P T) (hd : dOk nt o) (ho : o.op = .load t x) (h : vLoad T Γ o t x K) : Good P nt i o Γ K := by
  unfold vLoad at h
  split at h
  · rename_i xs k rd ti hp ht
    have hti := hT t ti ht
    obtain ⟨hlen, h⟩ := h
    split at h
    · rename_i ha
      refine ⟨_, _, actOk_val hd (fun Δ a w g hr r => ?_), h⟩
      have hx := opX_rel r x
      rw [opX_congr (Γ := Γ) fun n hn => hr n (by simp [hn])] at hx
      obtain ⟨v, h1, h2⟩ := (ptrTo_cells hp (fun n hn => hr n (by simp [hn])) r hx).agg hti ha hlen
      rw [slice_eq_map _ _ _ hlen] at h2
      exact ⟨v, by simp only [execOp, ho]; exact run_v h1, h2⟩
    · rename_i ha
      obtain ⟨h1', h⟩ := h
      refine ⟨_, _, actOk_val hd (fun Δ a w g hr r => ?_), h⟩
      have hx := opX_rel r x
      rw [opX_congr (Γ := Γ) fun n hn => hr n (by simp [hn])] at hx
      have hk : k < xs.length := by omega
      obtain ⟨v, h1, h2⟩ := (ptrTo_cells hp (fun n hn => hr n (by simp [hn])) r hx).one hti (by simpa using ha) (x := tvAt xs k) (by simp [tvAt, List.getD, List.getElem?_eq_getElem hk])
      exact ⟨v, by simp only [execOp, ho]; exact run_v h1, h2⟩
  · exact h.elim
def cnt (e : Nat) (xs : List SV) : Nat := xs.length / e
theorem RowR.head {w g h ty e xs} (r : RowR w g h ty e xs) : ∃ a n cap, g.hd h = .slice a n cap ∧ n = cnt e xs ∧ n ≤ cap ∧ xs.length = n * e ∧ (a = none → xs = [] ∧ cap = 0) ∧ (xs ≠ [] → ∀ b, a = some b → ∃ k, b = ⟨k, 0, none⟩) := by
  obtain ⟨n, vs, he, hn, ho', ha⟩ := r
  have hc : n = cnt e xs := by unfold cnt; rw [hn, Nat.mul_div_cancel _ he]
  rcases ho' with ⟨ho, hb⟩ | ⟨q1, q2, b, q3⟩
  case inr =>
    subst q1
    have hxs : xs = [] := List.eq_nil_of_length_eq_zero (by simpa using hn)
    exact ⟨some b, 0, 0, q3, hc, Nat.le_refl _, hn, fun h => by simp at h, fun hne => absurd hxs hne⟩
  rcases ho.2 with ⟨h1, h2⟩ | ⟨k, cap, cur, h1, _, _, h2, _⟩
  · subst h2; simp at hn; subst hn; exact ⟨none, 0, 0, h1, hc, Nat.le_refl _, by simp, fun _ => ⟨rfl, rfl⟩, fun _ b hb => by cases hb⟩
  · exact ⟨_, n, cap, h1, hc, h2, hn, fun h => by simp at h, fun _ b hb => by cases hb; exact ⟨k, rfl⟩⟩
theorem RowR.nilIff {w g h ty e xs} (r : RowR w g h ty e xs) : ∃ a n cap, g.hd h = .slice a n cap ∧ True ∧ True ∧ True ∧ (a = none → xs = []) := by
  obtain ⟨a, n, cap, h1, _, _, _, h5, _⟩ := r.head
  exact ⟨a, n, cap, h1, trivial, trivial, trivial, fun h => (h5 h).1⟩
/-! ### copies, choices, not, tests -/
def vPick (Γ : Nm → C) (o : Oper) (c x y : Operand) (K : List Nm → List (Nm × C) → Prop) : Prop :=
  match opX Γ c with
  | .p (.one (.v (.raw (.bool b)))) => match b with
    | true => K (opR c ++ opR x) (putT o.dst (opX Γ x))
    | false => K (opR c ++ opR y) (putT o.dst (opX Γ y))
  | _ => False
theorem vPick_ok {P Γ nt i o c x y K} (hd : dOk nt o) (ho : o.op = .pick c x y) (h : vPick Γ o c x y K) : Good P nt i o Γ K := by
  unfold vPick at h
  split at h
  · rename_i b hc
    split at h
    all_goals
      refine ⟨_, _, actOk_val hd (fun Δ a w g hr r => ?_), h⟩
      have h1 := opX_rel r c
      rw [opX_congr (Γ := Γ) fun n hn => hr n (by simp [hn]), hc] at h1
      obtain ⟨e1, _⟩ := raw_of h1
    · have hx := opX_rel r x
      rw [opX_congr (Γ := Γ) fun n hn => hr n (by simp [hn])] at hx
      exact ⟨_, by simp only [execOp, ho, e1]; rfl, hx⟩
    · have hx := opX_rel r y
      rw [opX_congr (Γ := Γ) fun n hn => hr n (by simp [hn])] at hx
      exact ⟨_, by simp only [execOp, ho, e1]; rfl, hx⟩
  · exact h.elim
def unNot (x : X) (K : Value → Prop) : Prop :=
  match x with
  | .p (.one (.v (.raw (.bool b)))) => K (.bool !b)
  | _ => False
def unNeg (x : X) (K : Value → Prop) : Prop :=
  match x with
  | .p (.one (.v (.raw (.int k n)))) => K (.int k (k.wrap (0 - n)))
  | _ => False
def vUn (Γ : Nm → C) (o : Oper) (op : UnOp) (x : Operand) (K : List Nm → List (Nm × C) → Prop) : Prop :=
  match op with
  | .not => unNot (opX Γ x) fun v => K (opR x) (putT o.dst (rawX v))
  | .neg => unNeg (opX Γ x) fun v => K (opR x) (putT o.dst (rawX v))
  | _ => False
theorem vUn_ok {P Γ nt i o op t x K} (hd : dOk nt o) (ho : o.op = .unOp op t x) (h : vUn Γ o op x K) : Good P nt i o Γ K := by
  unfold vUn at h
  split at h
  · unfold unNot at h
    split at h
    · rename_i b hc
      refine ⟨_, _, actOk_val hd (fun Δ a w g hr r => ?_), h⟩
      have h1 := opX_rel r x
      rw [opX_congr (Γ := Γ) hr, hc] at h1
      obtain ⟨e1, _⟩ := raw_of h1
      exact ⟨_, by simp only [execOp, ho, e1]; rfl, .raw _ rfl⟩
    · exact h.elim
  · unfold unNeg at h
    split at h
    · rename_i k n hc
      refine ⟨_, _, actOk_val hd (fun Δ a w g hr r => ?_), h⟩
      have h1 := opX_rel r x
      rw [opX_congr (Γ := Γ) hr, hc] at h1
      obtain ⟨e1, _⟩ := raw_of h1
      exact ⟨_, by simp only [execOp, ho, e1]; rfl, .raw _ rfl⟩
    · exact h.elim
  · exact h.elim
def isSlT (T : Tab) (t : Nat) : Bool := match T t with | some ⟨.slice _, _, _, _⟩ => true | _ => false
def isPtT (T : Tab) (t : Nat) : Bool := match T t with | some ⟨.ptr _, _, _, _⟩ => true | _ => false
def isCon : Operand → Bool
  | .const _ => true
  | _ => false
def isIfT (T : Tab) (t : Nat) : Bool := match T t with | some ⟨.iface, _, _, _⟩ => true | _ => false
def eqK (op : BinOp) (p : Prop) (K : Bool → Prop) : Prop := match op with | .eql => vB p K | .neq => vB p fun b => K (!b) | _ => False
def nilK (op : BinOp) (b : Bool) (K : Bool → Prop) : Prop := match op with | .eql => K b | .neq => K (!b) | _ => False
/-- The kind of the numbers, of an array of two. -/
def arrK (T : Tab) (t : Nat) : Option IntKind := match T t with
  | some ⟨.arr 2 el, _, _, _⟩ => match T el with
    | some ⟨.int k, 1, _, _⟩ => some k
    | _ => none
  | _ => none
def vBin (T : Tab) (Γ : Nm → C) (o : Oper) (op : BinOp) (t : Nat) (x y : Operand) (K : List Nm → List (Nm × C) → Prop) : Prop :=
  match opX Γ x, opX Γ y with
  | .p (.one (.v (.raw (.int k a)))), .p (.one (.v (.raw (.int k' b)))) => vInt op k k' a b fun v => K (opR x ++ opR y) (putT o.dst (rawX v))
  | .p (.one (.v (.raw (.string a)))), .p (.one (.v (.raw (.string b)))) => vStr op a b fun v => K (opR x ++ opR y) (putT o.dst (rawX v))
  | .p (.one (.v (.raw (.bool a)))), .p (.one (.v (.raw (.bool b)))) => match T t, op with
    | some ⟨.bool, _, _, _⟩, .eql => K (opR x ++ opR y) (putT o.dst (rawX (.bool (a == b))))
    | some ⟨.bool, _, _, _⟩, .neq => K (opR x ++ opR y) (putT o.dst (rawX (.bool (!(a == b)))))
    | _, _ => False
  | .p (.one (.nl _ _)), .p (.one (.nl 0 0)) => isSlT T t = true ∧ nilK op true fun b => K (opR x ++ opR y) (putT o.dst (rawX (.bool b)))
  | .p (.one (.nn _ _)), .p (.one (.nl 0 0)) => isSlT T t = true ∧ nilK op false fun b => K (opR x ++ opR y) (putT o.dst (rawX (.bool b)))
  | .p (.one (.sr h)), .p (.one (.nl 0 0)) => match Γ (.row h) with
    | .row _ _ xs => isSlT T t = true ∧ xs ≠ [] ∧ nilK op false fun b => K (opR x ++ opR y ++ [.row h]) (putT o.dst (rawX (.bool b)))
    | _ => False
  | .p (.one (.v (.raw (.pointer none)))), .p (.one (.v (.raw (.pointer none)))) => isPtT T t = true ∧ nilK op true fun b => K (opR x ++ opR y) (putT o.dst (rawX (.bool b)))
  | .p (.one (.v (.pt _ _))), .p (.one (.v (.raw (.pointer none)))) => isPtT T t = true ∧ nilK op false fun b => K (opR x ++ opR y) (putT o.dst (rawX (.bool b)))
  | .p (.one (.pr _ _)), .p (.one (.v (.raw (.pointer none)))) => isPtT T t = true ∧ nilK op false fun b => K (opR x ++ opR y) (putT o.dst (rawX (.bool b)))
  | .p (.one (.v (.raw .nilIface))), .p (.one (.v (.raw .nilIface))) => isIfT T t = true ∧ isCon y = true ∧ nilK op true fun b => K (opR x ++ opR y) (putT o.dst (rawX (.bool b)))
  | .p (.one (.v (.ifc _ _))), .p (.one (.v (.raw .nilIface))) => isIfT T t = true ∧ isCon y = true ∧ nilK op false fun b => K (opR x ++ opR y) (putT o.dst (rawX (.bool b)))
  | .p (.agg [.v (.raw (.int k1 a)), .v (.raw (.int k2 b))]), .p (.agg [.v (.raw (.int k3 c)), .v (.raw (.int k4 d))]) => match arrK T t with
    | some k => k1 = k ∧ k2 = k ∧ k3 = k ∧ k4 = k ∧ eqK op (a = c ∧ b = d) fun r => K (opR x ++ opR y) (putT o.dst (rawX (.bool r)))
    | none => False
  | _, _ => False
theorem run_arr2 {P : Program} {t el : Nat} {k : IntKind} (ht : P.underlying t = some (.array 2 el)) (he : P.underlying el = some (.int k)) (hsz : ∀ w, (sizeOf el).run P w = .ok 1 w) (a b c d : Int) (w : World) :
    (Op.equalIn 10000 t (.agg #[.int k a, .int k b]) (.agg #[.int k c, .int k d])).run P w = .ok (decide (a = c ∧ b = d)) w := by
  have p1 : ∀ (u v : Int), (part el #[.int k u, .int k v] 0).run P w = .ok (.int k u) w := fun u v => by simp [part, isAgg, run_underlying he]
  have p2 : ∀ (u v : Int), (part el #[.int k u, .int k v] 1).run P w = .ok (.int k v) w := fun u v => by simp [part, isAgg, run_underlying he]
  have pe : ∀ (u v : Int), (Op.equalIn 9999 el (.int k u) (.int k v)).run P w = .ok (u == v) w := fun u v => run_equalIn_int w 9998 el k k u v he
  rw [show (10000 : Nat) = 9999 + 1 from rfl, Op.equalIn]
  simp only [Sem.run_bind, run_underlying ht, Result.andThen_ok, hsz, Std.Legacy.Range.forIn_eq_forIn_range', Std.Legacy.Range.size, Nat.sub_zero, Nat.add_sub_cancel, Nat.div_one]
  show ((forIn [0, 1] _ _ : Sem _).run P w).andThen _ = _
  simp only [List.forIn_cons, List.forIn_nil, Sem.run_bind, Nat.zero_mul, Nat.one_mul, p1, p2, pe, Result.andThen_ok]
  by_cases h1 : a = c <;> by_cases h2 : b = d <;> simp [h1, h2, p1, p2, pe, Sem.run_bind]
theorem eqGuardType_arr {P : Program} {t el : Nat} {k : IntKind} (ht : P.underlying t = some (.array 2 el)) (he : P.underlying el = some (.int k)) : P.eqGuardType P.depth t = false := by
  have e : P.depth = (2 * (P.types.size + Made.depth)) + 1 + 1 := rfl
  rw [e, Program.eqGuardType, ht]
  show P.eqGuardType (_ + 1) el = false
  rw [Program.eqGuardType, he]
theorem guard_arr2 {P : Program} {t el : Nat} {k : IntKind} (ht : P.underlying t = some (.array 2 el)) (he : P.underlying el = some (.int k)) (op : BinOp) (x y : Operand) (xs ys : Array Value) (w : World) :
    (eqGuard op t x y (.agg xs) (.agg ys)).run P w = .ok () w := by
  have hg := eqGuardType_arr ht he
  unfold eqGuard
  cases op <;> simp [go_sem, hg, Sem.run_bind, program, Sem.run]
theorem arrK_und {P : Program} {T : Tab} {t : Nat} {k : IntKind} (hT : Tok P T) (h : arrK T t = some k) : ∃ el, P.underlying t = some (.array 2 el) ∧ P.underlying el = some (.int k) ∧ ∀ w, (sizeOf el).run P w = .ok 1 w := by
  unfold arrK at h
  split at h
  · rename_i el a b c ht
    split at h
    · rename_i k' a' b' hel
      cases h
      refine ⟨el, ?_, ?_, fun w => (hT el _ hel).run_size w⟩
      · obtain ⟨d, hd, he⟩ := (hT t _ ht).und'
        cases d <;> simp [dK] at he
        obtain ⟨rfl, rfl⟩ := he
        exact hd
      · obtain ⟨d, hd, he⟩ := (hT el _ hel).und'
        cases d <;> simp [dK] at he
        subst he
        exact hd
    · cases h
  · cases h
theorem isIfT_und {P T t} (hT : Tok P T) (h : isIfT T t = true) : P.underlying t = some (.interface (P.methodsAt t)) := by
  unfold isIfT at h
  split at h
  · rename_i a b c ht
    obtain ⟨d, hd, he⟩ := (hT t _ ht).und'
    cases d <;> simp [dK] at he
    simp [Program.methodsAt, hd]
  · cases h
theorem isPtT_und {P T t} (hT : Tok P T) (h : isPtT T t = true) : P.underlying t = some (.pointer (P.pointee t)) := by
  unfold isPtT at h
  split at h
  · rename_i el a b c ht
    obtain ⟨d, hd, he⟩ := (hT t _ ht).und'
    cases d <;> simp [dK] at he
    simp [Program.pointee, hd]
  · cases h
/-- A pointer against nil. -/
theorem run_ptrcmp {P : Program} {t : Nat} (hu : P.underlying t = some (.pointer (P.pointee t))) (x y : Operand) (ad : Option Addr) (w : World) :
    (do eqGuard .eql t x y (.pointer ad) (.pointer none); binOp .eql t (.pointer ad) (.pointer none) : Sem Value).run P w = .ok (.bool ad.isNone) w ∧
    (do eqGuard .neq t x y (.pointer ad) (.pointer none); binOp .neq t (.pointer ad) (.pointer none) : Sem Value).run P w = .ok (.bool (!ad.isNone)) w :=
  ⟨(run_bind_ok (a := ()) (w' := w) rfl).trans (run_eql_pointer_nil w t ad hu), (run_bind_ok (a := ()) (w' := w) rfl).trans (run_neq_pointer_nil w t ad hu)⟩
theorem ptr_nil_ok {P T Γ nt i o op t x y yt K b} (hT : Tok P T) (hd : dOk nt o) (ho : o.op = .binOp op t x y yt) (hpt : isPtT T t = true)
    (key : ∀ (Δ : Nm → C) (a : Act) w g, (∀ n ∈ opR x ++ opR y, Δ n = Γ n) → Rel Δ nt a w g → ∃ ad : Option Addr, a.eval x = .pointer ad ∧ a.eval y = .pointer none ∧ ad.isNone = b)
    (h : nilK op b fun b => K (opR x ++ opR y) (putT o.dst (rawX (.bool b)))) : Good P nt i o Γ K := by
  have hu := isPtT_und hT hpt
  cases op <;> simp only [nilK] at h
  case eql => exact ⟨_, _, actOk_val hd (fun Δ a w g hr r => by
    obtain ⟨ad, e1, e2, e3⟩ := key Δ a w g hr r
    refine ⟨_, ?_, .raw _ rfl⟩
    simp only [execOp, ho, e1, e2, ← e3]
    exact run_v (run_ptrcmp hu x y ad w).1), h⟩
  case neq => exact ⟨_, _, actOk_val hd (fun Δ a w g hr r => by
    obtain ⟨ad, e1, e2, e3⟩ := key Δ a w g hr r
    refine ⟨_, ?_, .raw _ rfl⟩
    simp only [execOp, ho, e1, e2, ← e3]
    exact run_v (run_ptrcmp hu x y ad w).2), h⟩
theorem isSlT_und {P T t} (hT : Tok P T) (h : isSlT T t = true) : ∃ e, P.underlying t = some (.slice e) := by
  unfold isSlT at h
  split at h
  · rename_i el a b c ht; exact ⟨el, (hT t _ ht).slice rfl⟩
  · cases h
/-- A slice against nil. -/
theorem run_nilcmp {P : Program} {t e : Nat} (hu : P.underlying t = some (.slice e)) (x y : Operand) (ad : Option Addr) (n c : Nat) (w : World) :
    (do eqGuard .eql t x y (.slice ad n c) (.slice none 0 0); binOp .eql t (.slice ad n c) (.slice none 0 0) : Sem Value).run P w = .ok (.bool ad.isNone) w ∧
    (do eqGuard .neq t x y (.slice ad n c) (.slice none 0 0); binOp .neq t (.slice ad n c) (.slice none 0 0) : Sem Value).run P w = .ok (.bool (!ad.isNone)) w :=
  ⟨(run_bind_ok (a := ()) (w' := w) rfl).trans (Lib.run_eql_slice_nil (P := P) w t e ad n c 0 0 hu), (run_bind_ok (a := ()) (w' := w) rfl).trans (run_neq_slice_nil_any (P := P) w t e ad n c 0 0 hu)⟩
theorem agg2_of {w : World} {g : Gh} {u v1 v2 : Value} (h : XR w g u (.p (.agg [.v (.raw v1), .v (.raw v2)]))) : u = .agg #[v1, v2] := by
  obtain ⟨cs, rfl, hl, ha⟩ := h
  have q1 := ha 0
  have q2 := ha 1
  obtain ⟨l, hl'⟩ : ∃ l, cs.toList = l := ⟨_, rfl⟩
  rw [hl'] at hl q1 q2
  match l, hl with
  | [a, b], _ =>
    have e1 : a = v1 := (raw_of (g := g) (show XR w g a (rawX v1) from q1 a _ rfl rfl)).1
    have e2 : b = v2 := (raw_of (g := g) (show XR w g b (rawX v2) from q2 b _ rfl rfl)).1
    subst e1; subst e2
    congr 1
    exact Array.toList_inj.1 hl'
theorem vBin_ok {P T Γ nt i o op t x y yt K} (hT : Tok P T) (hd : dOk nt o) (ho : o.op = .binOp op t x y yt) (h : vBin T Γ o op t x y K) : Good P nt i o Γ K := by
  unfold vBin at h
  split at h
  · rename_i k a k' b hx hy
    obtain ⟨v, hs, hk, hv⟩ := run_int (P := P) h
    refine ⟨_, _, actOk_val hd (fun Δ a w g hr r => ?_), hk⟩
    have h1 := opX_rel r x
    rw [opX_congr (Γ := Γ) fun n hn => hr n (by simp [hn]), hx] at h1
    have h2 := opX_rel r y
    rw [opX_congr (Γ := Γ) fun n hn => hr n (by simp [hn]), hy] at h2
    exact ⟨v, by simp only [execOp, ho, (raw_of h1).1, (raw_of h2).1]; exact run_v (hv t x y w), .raw _ hs⟩
  · rename_i a b hx hy
    obtain ⟨v, hs, hk, hv⟩ := run_str (P := P) h
    refine ⟨_, _, actOk_val hd (fun Δ a w g hr r => ?_), hk⟩
    have h1 := opX_rel r x
    rw [opX_congr (Γ := Γ) fun n hn => hr n (by simp [hn]), hx] at h1
    have h2 := opX_rel r y
    rw [opX_congr (Γ := Γ) fun n hn => hr n (by simp [hn]), hy] at h2
    exact ⟨v, by simp only [execOp, ho, (raw_of h1).1, (raw_of h2).1]; exact run_v (hv t x y w), .raw _ hs⟩
  · rename_i a b hx hy
    split at h
    all_goals first | exact h.elim | skip
    all_goals
      rename_i sz by' ze ht
      have hu := (hT t _ ht).und
      have hu' : P.underlying t = some .bool := by
        cases hd' : P.underlying t with
        | none => simp [hd'] at hu
        | some d => cases d <;> simp [hd', dK] at hu <;> rfl
      refine ⟨_, _, actOk_val hd (fun Δ a w g hr r => ?_), h⟩
      have h1 := opX_rel r x
      rw [opX_congr (Γ := Γ) fun n hn => hr n (by simp [hn]), hx] at h1
      have h2 := opX_rel r y
      rw [opX_congr (Γ := Γ) fun n hn => hr n (by simp [hn]), hy] at h2
    · exact ⟨_, by simp only [execOp, ho, (raw_of h1).1, (raw_of h2).1]; exact run_v ((run_bind_ok (a := ()) (w' := w) rfl).trans (run_eql_bool w t _ _ hu')), .raw _ rfl⟩
    · exact ⟨_, by simp only [execOp, ho, (raw_of h1).1, (raw_of h2).1]; exact run_v ((run_bind_ok (a := ()) (w' := w) rfl).trans (run_neq_bool w t _ _ hu')), .raw _ rfl⟩
  · rename_i ty1 e1 hx hy
    obtain ⟨hsl, h⟩ := h
    obtain ⟨el, hu⟩ := isSlT_und hT hsl
    have key : ∀ (Δ : Nm → C) (a : Act) w g, (∀ n ∈ opR x ++ opR y, Δ n = Γ n) → Rel Δ nt a w g → a.eval x = .slice none 0 0 ∧ a.eval y = .slice none 0 0 := fun Δ a w g hr r => by
      have h1 := opX_rel r x
      rw [opX_congr (Γ := Γ) fun n hn => hr n (by simp [hn]), hx] at h1
      have h2 := opX_rel r y
      rw [opX_congr (Γ := Γ) fun n hn => hr n (by simp [hn]), hy] at h2
      exact ⟨h1, h2⟩
    cases op <;> simp only [nilK] at h
    case eql => exact ⟨_, _, actOk_val hd (fun Δ a w g hr r => by
      obtain ⟨e1, e2⟩ := key Δ a w g hr r
      refine ⟨_, ?_, .raw _ rfl⟩
      simp only [execOp, ho, e1, e2]
      exact run_v (run_nilcmp hu x y none 0 0 w).1), h⟩
    case neq => exact ⟨_, _, actOk_val hd (fun Δ a w g hr r => by
      obtain ⟨e1, e2⟩ := key Δ a w g hr r
      refine ⟨_, ?_, .raw _ rfl⟩
      simp only [execOp, ho, e1, e2]
      exact run_v (run_nilcmp hu x y none 0 0 w).2), h⟩
  · rename_i e1 xs1 hx hy
    obtain ⟨hsl, h⟩ := h
    obtain ⟨el, hu⟩ := isSlT_und hT hsl
    have key : ∀ (Δ : Nm → C) (a : Act) w g, (∀ n ∈ opR x ++ opR y, Δ n = Γ n) → Rel Δ nt a w g → (∃ b n c, a.eval x = .slice (some b) n c) ∧ a.eval y = .slice none 0 0 := fun Δ a w g hr r => by
      have h1 := opX_rel r x
      rw [opX_congr (Γ := Γ) fun n hn => hr n (by simp [hn]), hx] at h1
      have h2 := opX_rel r y
      rw [opX_congr (Γ := Γ) fun n hn => hr n (by simp [hn]), hy] at h2
      refine ⟨?_, h2⟩
      obtain ⟨q1, q2⟩ := h1
      generalize a.eval x = u at q1 q2
      cases q1 with
      | nil ad cap => cases ad with
        | none => exact absurd rfl (q2 _ _)
        | some b => exact ⟨b, _, _, rfl⟩
      | sl b off len cap => exact ⟨_, _, _, rfl⟩
    cases op <;> simp only [nilK] at h
    case eql => exact ⟨_, _, actOk_val hd (fun Δ a w g hr r => by
      obtain ⟨⟨b, n, c, e1⟩, e2⟩ := key Δ a w g hr r
      refine ⟨_, ?_, .raw _ rfl⟩
      simp only [execOp, ho, e1, e2]
      exact run_v (run_nilcmp hu x y (some b) n c w).1), h⟩
    case neq => exact ⟨_, _, actOk_val hd (fun Δ a w g hr r => by
      obtain ⟨⟨b, n, c, e1⟩, e2⟩ := key Δ a w g hr r
      refine ⟨_, ?_, .raw _ rfl⟩
      simp only [execOp, ho, e1, e2]
      exact run_v (run_nilcmp hu x y (some b) n c w).2), h⟩
  · rename_i hh hx hy
    split at h
    · rename_i ty0 e0 xs hrow
      obtain ⟨hsl, hne, h⟩ := h
      obtain ⟨el, hu⟩ := isSlT_und hT hsl
      have key : ∀ (Δ : Nm → C) (a : Act) w g, (∀ n ∈ opR x ++ opR y ++ [.row hh], Δ n = Γ n) → Rel Δ nt a w g → (∃ b n c, a.eval x = .slice (some b) n c) ∧ a.eval y = .slice none 0 0 := fun Δ a w g hr r => by
        have h1 := opX_rel r x
        rw [opX_congr (Γ := Γ) fun n hn => hr n (by simp [hn]), hx] at h1
        have h2 := opX_rel r y
        rw [opX_congr (Γ := Γ) fun n hn => hr n (by simp [hn]), hy] at h2
        refine ⟨?_, h2⟩
        obtain ⟨ad, n, c, q1, _, _, _, q2⟩ := (r.row (h := hh) (by rw [hr _ (by simp), hrow])).nilIff
        cases ad with
        | none => exact absurd (q2 rfl) hne
        | some b => exact ⟨b, n, c, Eq.trans h1 q1⟩
      cases op <;> simp only [nilK] at h
      case eql => exact ⟨_, _, actOk_val hd (fun Δ a w g hr r => by
        obtain ⟨⟨b, n, c, e1⟩, e2⟩ := key Δ a w g hr r
        refine ⟨_, ?_, .raw _ rfl⟩
        simp only [execOp, ho, e1, e2]
        exact run_v (run_nilcmp hu x y (some b) n c w).1), h⟩
      case neq => exact ⟨_, _, actOk_val hd (fun Δ a w g hr r => by
        obtain ⟨⟨b, n, c, e1⟩, e2⟩ := key Δ a w g hr r
        refine ⟨_, ?_, .raw _ rfl⟩
        simp only [execOp, ho, e1, e2]
        exact run_v (run_nilcmp hu x y (some b) n c w).2), h⟩
    · exact h.elim
  · rename_i hx hy
    refine ptr_nil_ok hT hd ho h.1 (fun Δ a w g hr r => ?_) h.2
    have h1 := opX_rel r x
    rw [opX_congr (Γ := Γ) fun n hn => hr n (by simp [hn]), hx] at h1
    have h2 := opX_rel r y
    rw [opX_congr (Γ := Γ) fun n hn => hr n (by simp [hn]), hy] at h2
    exact ⟨none, (raw_of h1).1, (raw_of h2).1, rfl⟩
  · rename_i xs k hx hy
    refine ptr_nil_ok hT hd ho h.1 (fun Δ a w g hr r => ?_) h.2
    have h1 := opX_rel r x
    rw [opX_congr (Γ := Γ) fun n hn => hr n (by simp [hn]), hx] at h1
    have h2 := opX_rel r y
    rw [opX_congr (Γ := Γ) fun n hn => hr n (by simp [hn]), hy] at h2
    obtain ⟨b, off, us, e1, _⟩ := SVR.cpr h1
    exact ⟨_, e1, (raw_of h2).1, rfl⟩
  · rename_i hh off hx hy
    refine ptr_nil_ok hT hd ho h.1 (fun Δ a w g hr r => ?_) h.2
    have h1 := opX_rel r x
    rw [opX_congr (Γ := Γ) fun n hn => hr n (by simp [hn]), hx] at h1
    have h2 := opX_rel r y
    rw [opX_congr (Γ := Γ) fun n hn => hr n (by simp [hn]), hy] at h2
    exact ⟨_, h1, (raw_of h2).1, rfl⟩
  · rename_i hx hy
    obtain ⟨hif, hcon, h⟩ := h
    have hu := isIfT_und hT hif
    have key : ∀ (Δ : Nm → C) (a : Act) w g, (∀ n ∈ opR x ++ opR y, Δ n = Γ n) → Rel Δ nt a w g → a.eval x = .nilIface ∧ a.eval y = .nilIface := fun Δ a w g hr r => by
      have h1 := opX_rel r x
      rw [opX_congr (Γ := Γ) fun n hn => hr n (by simp [hn]), hx] at h1
      have h2 := opX_rel r y
      rw [opX_congr (Γ := Γ) fun n hn => hr n (by simp [hn]), hy] at h2
      exact ⟨(raw_of h1).1, (raw_of h2).1⟩
    have hg : ∀ (op : BinOp) (w : World), (eqGuard op t x y .nilIface .nilIface).run P w = .ok () w := fun op w => by
      cases y with
      | const c => rw [eqGuard_nil_constR]; rfl
      | _ => simp [isCon] at hcon
    cases op <;> simp only [nilK] at h
    case eql => exact ⟨_, _, actOk_val hd (fun Δ a w g hr r => by
      obtain ⟨e1, e2⟩ := key Δ a w g hr r
      refine ⟨_, ?_, .raw _ rfl⟩
      simp only [execOp, ho, e1, e2]
      exact run_v ((run_bind_ok (hg _ w)).trans (run_eql_nil_nil w t hu))), h⟩
    case neq => exact ⟨_, _, actOk_val hd (fun Δ a w g hr r => by
      obtain ⟨e1, e2⟩ := key Δ a w g hr r
      refine ⟨_, ?_, .raw _ rfl⟩
      simp only [execOp, ho, e1, e2]
      exact run_v ((run_bind_ok (hg _ w)).trans (run_neq_nil_nil w t hu))), h⟩
  · rename_i ti xi hx hy
    obtain ⟨hif, hcon, h⟩ := h
    have hu := isIfT_und hT hif
    have key : ∀ (Δ : Nm → C) (a : Act) w g, (∀ n ∈ opR x ++ opR y, Δ n = Γ n) → Rel Δ nt a w g → (∃ u, a.eval x = .iface ti u) ∧ a.eval y = .nilIface := fun Δ a w g hr r => by
      have h1 := opX_rel r x
      rw [opX_congr (Γ := Γ) fun n hn => hr n (by simp [hn]), hx] at h1
      have h2 := opX_rel r y
      rw [opX_congr (Γ := Γ) fun n hn => hr n (by simp [hn]), hy] at h2
      have h1' : SVR w g.o (a.eval x) (.ifc ti xi) := h1
      refine ⟨?_, (raw_of h2).1⟩
      generalize a.eval x = z at h1'
      cases h1' with
      | ifc _ u _ _ => exact ⟨u, rfl⟩
    have hg : ∀ (op : BinOp) (u : Value) (w : World), (eqGuard op t x y (.iface ti u) .nilIface).run P w = .ok () w := fun op u w => by
      cases op <;> rfl
    cases op <;> simp only [nilK] at h
    case eql => exact ⟨_, _, actOk_val hd (fun Δ a w g hr r => by
      obtain ⟨⟨u, e1⟩, e2⟩ := key Δ a w g hr r
      refine ⟨_, ?_, .raw _ rfl⟩
      simp only [execOp, ho, e1, e2]
      exact run_v ((run_bind_ok (hg _ _ w)).trans (run_eql_held_nil w t _ _ hu))), h⟩
    case neq => exact ⟨_, _, actOk_val hd (fun Δ a w g hr r => by
      obtain ⟨⟨u, e1⟩, e2⟩ := key Δ a w g hr r
      refine ⟨_, ?_, .raw _ rfl⟩
      simp only [execOp, ho, e1, e2]
      exact run_v ((run_bind_ok (hg _ _ w)).trans (run_neq_held_nil w t _ _ hu))), h⟩
  · rename_i k1 a k2 b k3 c k4 d hx hy
    split at h
    · rename_i k hk
      obtain ⟨z1, z2, z3, z4, h⟩ := h
      rw [z1, z2] at hx
      rw [z3, z4] at hy
      obtain ⟨el, hu, he, hsz⟩ := arrK_und hT hk
      have key : ∀ (Δ : Nm → C) (aa : Act) w g, (∀ n ∈ opR x ++ opR y, Δ n = Γ n) → Rel Δ nt aa w g → aa.eval x = .agg #[.int k a, .int k b] ∧ aa.eval y = .agg #[.int k c, .int k d] := fun Δ aa w g hr r => by
        have h1 := opX_rel r x
        rw [opX_congr (Γ := Γ) fun n hn => hr n (by simp [hn]), hx] at h1
        have h2 := opX_rel r y
        rw [opX_congr (Γ := Γ) fun n hn => hr n (by simp [hn]), hy] at h2
        exact ⟨agg2_of h1, agg2_of h2⟩
      cases op <;> simp only [eqK] at h
      case eql => exact ⟨_, _, actOk_val hd (fun Δ aa w g hr r => by
        obtain ⟨e1, e2⟩ := key Δ aa w g hr r
        refine ⟨_, ?_, .raw _ rfl⟩
        simp only [execOp, ho, e1, e2]
        refine run_v ((run_bind_ok (guard_arr2 hu he _ _ _ _ _ w)).trans ?_)
        rw [run_eql_struct, run_arr2 hu he hsz]
        rfl), vB_out h⟩
      case neq => exact ⟨_, _, actOk_val hd (fun Δ aa w g hr r => by
        obtain ⟨e1, e2⟩ := key Δ aa w g hr r
        refine ⟨_, ?_, .raw _ rfl⟩
        simp only [execOp, ho, e1, e2]
        refine run_v ((run_bind_ok (guard_arr2 hu he _ _ _ _ _ w)).trans ?_)
        rw [run_neq_struct, run_arr2 hu he hsz]
        rfl), vB_out h⟩
    · exact h.elim
  · exact h.elim
/-! ### lengths -/
/-- A slice content: element size and cells. -/
def slOf (Γ : Nm → C) (x : X) : Option (Nat × List SV × List Nm) :=
  match x with
  | .p (.one (.v (.sl e xs))) => some (e, xs, [])
  | .p (.one (.nn e xs)) => some (e, xs, [])
  | .p (.one (.sr h)) => match Γ (.row h) with | .row ty e xs => some (e, xs, [.row h]) | _ => none
  | .p (.one (.nl _ e)) => some (e, [], [])
  | _ => none
/-- The header of a slice content. -/
theorem slOf_head {Γ Δ nt a w g u x e xs rd} (h : slOf Γ x = some (e, xs, rd)) (hr : ∀ n ∈ rd, Δ n = Γ n) (r : Rel Δ nt a w g) (hx : XR w g u x) :
    ∃ ad n cap, u = .slice ad n cap ∧ n = cnt e xs ∧ n ≤ cap ∧ (xs ≠ [] → xs.length = n * e ∧ 0 < e) := by
  have key : SVR w g.o u (.sl e xs) → ∃ ad n cap, u = .slice ad n cap ∧ n = cnt e xs ∧ n ≤ cap ∧ (xs ≠ [] → xs.length = n * e ∧ 0 < e) := fun hx => by
    cases hx with
    | nil ad cap => exact ⟨ad, 0, cap, rfl, by simp [cnt], Nat.zero_le _, fun h => absurd rfl h⟩
    | sl b off len cap _ _ us hb he hl hx hc => exact ⟨_, len, cap, rfl, by rw [cnt, hx, Nat.mul_div_cancel _ he], hc, fun _ => ⟨hx, he⟩⟩
  unfold slOf at h
  split at h
  · cases h
    exact key hx
  · cases h
    exact key hx.1
  · rename_i hh
    split at h
    · rename_i ty e' ys hb
      cases h
      have rr := r.row (h := hh) (by rw [hr _ (by simp), hb])
      obtain ⟨ad, n, cap, h1, h2, h3, h4, _⟩ := rr.head
      obtain ⟨_, _, he, _⟩ := rr
      exact ⟨ad, n, cap, Eq.trans hx h1, h2, h3, fun _ => ⟨h4, he⟩⟩
    · cases h
  · cases h
    exact ⟨none, 0, 0, hx, by simp [cnt], Nat.le_refl _, fun h => absurd rfl h⟩
  · cases h
theorem run_call_builtin {ρ : Operand → Value} {o : Oper} {c : Call} {b : Builtin} (ho : o.op = .call c) (hc : c.callee = .builtin b) :
    execOp ρ o = builtin b c.argTypes o.type (c.args.map fun | .const _ => true | _ => false) (c.args.map ρ) := by
  simp only [execOp, ho, resolve, hc]
  rfl
def vLen (T : Tab) (Γ : Nm → C) (o : Oper) (t : Nat) (x : Operand) (K : List Nm → List (Nm × C) → Prop) : Prop :=
  match T t with
  | some ⟨.str, _, _, _⟩ => match opX Γ x with
    | .p (.one (.v (.raw (.string s)))) => K (opR x) (putT o.dst (rawX (.int .i64 (s.size : Int))))
    | _ => False
  | some ⟨.slice _, _, _, _⟩ => match slOf Γ (opX Γ x) with
    | some (e, xs, rd) => K (opR x ++ rd) (putT o.dst (rawX (.int .i64 (cnt e xs : Int))))
    | none => False
  | some ⟨.arr n _, _, _, _⟩ => K (opR x) (putT o.dst (rawX (.int .i64 (n : Int))))
  | _ => False
theorem TIok.arr {P t i n e} (h : TIok P t i) (hk : i.k = .arr n e) : P.underlying t = some (.array n e) := by
  obtain ⟨d, hd, he⟩ := h.und'
  rw [hk] at he
  cases d <;> simp [dK] at he
  rw [hd, he.1, he.2]
theorem vLen_ok {P T Γ nt i o t x c K} (hT : Tok P T) (hd : dOk nt o) (ho : o.op = .call c) (hc : c.callee = .builtin .len) (ht : c.argTypes = #[t]) (ha : c.args = #[x]) (h : vLen T Γ o t x K) : Good P nt i o Γ K := by
  have hrun : ∀ (ρ : Operand → Value) (w : World) v, (Builtin.len_ #[t] o.type #[ρ x]).run P w = .ok v w → (execOp ρ o).run P w = .ok (.value v) w := fun ρ w v hv => by
    rw [run_call_builtin ho hc, ht, ha]
    exact run_v (by simpa using hv)
  unfold vLen at h
  split at h
  · rename_i sz by' ze htt
    split at h
    · rename_i s hx
      refine ⟨_, _, actOk_val hd (fun Δ a w g hr r => ?_), h⟩
      have h1 := opX_rel r x
      rw [opX_congr (Γ := Γ) hr, hx] at h1
      refine ⟨_, hrun _ _ _ ?_, .raw _ rfl⟩
      rw [(raw_of h1).1]
      simp [Builtin.len_, run_underlying ((hT t _ htt).str rfl), goInt, go_sem]
    · exact h.elim
  · rename_i el sz by' ze htt
    split at h
    · rename_i e xs rd hs
      refine ⟨_, _, actOk_val hd (fun Δ a w g hr r => ?_), h⟩
      have h1 := opX_rel r x
      rw [opX_congr (Γ := Γ) fun n hn => hr n (by simp [hn])] at h1
      obtain ⟨ad, n, cap, hv, hn, _⟩ := slOf_head hs (fun n hn => hr n (by simp [hn])) r h1
      refine ⟨_, hrun _ _ _ ?_, .raw _ rfl⟩
      rw [hv, ← hn]
      simp [Builtin.len_, run_underlying ((hT t _ htt).slice rfl), goInt, go_sem]
    · exact h.elim
  · rename_i n el sz by' ze htt
    refine ⟨_, _, actOk_val hd (fun Δ a w g hr r => ?_), h⟩
    refine ⟨_, hrun _ _ _ ?_, .raw _ rfl⟩
    simp [Builtin.len_, run_underlying ((hT t _ htt).arr rfl), goInt, go_sem]
  · exact h.elim
/-! ### parts of a tuple, fields of a value -/
def vExtract (Γ : Nm → C) (o : Oper) (x : Operand) (j : Nat) (K : List Nm → List (Nm × C) → Prop) : Prop :=
  match opX Γ x with
  | .tup xs => match xs[j]? with | some y => K (opR x) (putT o.dst (.p y)) | none => False
  | _ => False
theorem vExtract_ok {P Γ nt i o x j K} (hd : dOk nt o) (ho : o.op = .extract x j) (h : vExtract Γ o x j K) : Good P nt i o Γ K := by
  unfold vExtract at h
  split at h
  · rename_i xs hx
    split at h
    · rename_i y hy
      refine ⟨_, _, actOk_val hd (fun Δ a w g hr r => ?_), h⟩
      have h1 := opX_rel r x
      rw [opX_congr (Γ := Γ) hr, hx] at h1
      obtain ⟨vs, hv, hl, hall⟩ := h1
      have hlt : j < vs.toList.length := by rw [hl]; exact (List.getElem?_eq_some_iff.1 hy).1
      have hg : vs[j]? = some vs.toList[j] := by simp at hlt ⊢
      refine ⟨vs.toList[j], ?_, hall j _ y (by simp at hlt ⊢) hy⟩
      simp only [execOp, ho, hv]
      exact run_v (by simp only [Instr.extract, hg]; rfl)
    · exact h.elim
  · exact h.elim
def vField (T : Tab) (Γ : Nm → C) (o : Oper) (t : Nat) (x : Operand) (f : Nat) (K : List Nm → List (Nm × C) → Prop) : Prop :=
  match opX Γ x, T t with
  | .p (.agg xs), some ⟨.struct fs, _, _, _⟩ => match fs[f]? with
    | some (ft, off) => match T ft with
      | some i => off + i.size ≤ xs.length ∧ if i.k.agg then K (opR x) (putT o.dst (.p (.agg ((List.range i.size).map fun j => tvAt xs (off + j)))))
        else i.size = 1 ∧ K (opR x) (putT o.dst (.p (.one (tvAt xs off))))
      | none => False
    | none => False
  | _, _ => False
theorem run_part {P t i} (h : TIok P t i) {w g cs xs off} (ha : All2 (TVR w g) cs xs) (hl : off + i.size ≤ xs.length) :
    (i.k.agg = true → ∃ v, (part t cs.toArray off).run P w = .ok v w ∧ PXR w g v (.agg ((List.range i.size).map fun j => tvAt xs (off + j)))) ∧
    (i.k.agg = false → i.size = 1 → ∃ v, (part t cs.toArray off).run P w = .ok v w ∧ PXR w g v (.one (tvAt xs off))) := by
  refine ⟨fun hk => ?_, fun hk h1 => ?_⟩
  · refine ⟨.agg (cs.toArray.extract off (off + i.size)), ?_, ⟨_, rfl, ?_⟩⟩
    · unfold part
      rw [run_bind_ok (h.run_isAgg w), hk, if_pos rfl, run_bind_ok (h.run_size w)]
      rfl
    · rw [← slice_eq_map _ _ _ hl]
      have := (ha.drop off).take i.size
      simpa using this
  · have hlt : off < cs.length := by rw [ha.1]; omega
    refine ⟨cs[off], ?_, ?_⟩
    · unfold part
      rw [run_bind_ok (h.run_isAgg w), hk]
      simp [hlt, go_sem]
    · have hx : off < xs.length := by omega
      exact ha.2 off _ _ (List.getElem?_eq_getElem hlt) (by simp [tvAt, List.getD, List.getElem?_eq_getElem hx])
theorem TIok.struct {P t i fs} (h : TIok P t i) (hk : i.k = .struct fs) : ∃ fl : Array Go.Field, P.underlying t = some (.struct fl) ∧ ∀ (j ft off : Nat), fs[j]? = some (ft, off) → ∃ f : Go.Field, fl[j]? = some f ∧ f.type = ft ∧ f.offset = off := by
  obtain ⟨d, hd, he⟩ := h.und'
  rw [hk] at he
  cases d <;> simp [dK] at he
  rename_i fl
  subst he
  refine ⟨fl, hd, fun j ft off hj => ?_⟩
  simp at hj
  obtain ⟨f, h1, h2, h3⟩ := hj
  exact ⟨f, by simpa using h1, h2, h3⟩
theorem vField_ok {P T Γ nt i o t x f K} (hT : Tok P T) (hd : dOk nt o) (ho : o.op = .field t x f) (h : vField T Γ o t x f K) : Good P nt i o Γ K := by
  unfold vField at h
  split at h
  · rename_i xs fs sz by' ze hx ht
    split at h
    · rename_i ft off hf
      split at h
      · rename_i ti htf
        obtain ⟨hl, h⟩ := h
        obtain ⟨fl, hu, hfl⟩ := (hT t _ ht).struct rfl
        obtain ⟨fd, hfd, e1, e2⟩ := hfl f ft off hf
        have hti := hT ft ti htf
        have base : ∀ Δ (a : Act) w g, (∀ n ∈ opR x, Δ n = Γ n) → Rel Δ nt a w g → ∃ cs : Array Value, a.eval x = .agg cs ∧ All2 (TVR w g) cs.toList xs ∧ ∀ v, (part ft cs off).run P w = .ok v w → (execOp a.eval o).run P w = .ok (.value v) w := fun Δ a w g hr r => by
          have h1 := opX_rel r x
          rw [opX_congr (Γ := Γ) hr, hx] at h1
          obtain ⟨cs, hv, hall⟩ := h1
          refine ⟨cs, hv, hall, fun v hp => ?_⟩
          simp only [execOp, ho, hv]
          refine run_v ?_
          unfold Instr.field
          rw [run_bind_ok (run_underlying hu w)]
          simp only [hfd, asAgg]
          rw [run_bind_ok (a := cs) (w' := w) rfl, e1, e2]
          exact hp
        split at h
        · rename_i hk
          refine ⟨_, _, actOk_val hd (fun Δ a w g hr r => ?_), h⟩
          obtain ⟨cs, _, hall, hrun⟩ := base Δ a w g hr r
          obtain ⟨v, hv, hx'⟩ := (run_part hti hall hl).1 hk
          exact ⟨v, hrun v (by simpa using hv), hx'⟩
        · rename_i hk
          obtain ⟨h1, h⟩ := h
          refine ⟨_, _, actOk_val hd (fun Δ a w g hr r => ?_), h⟩
          obtain ⟨cs, _, hall, hrun⟩ := base Δ a w g hr r
          obtain ⟨v, hv, hx'⟩ := (run_part hti hall hl).2 (by simpa using hk) h1
          exact ⟨v, hrun v (by simpa using hv), hx'⟩
      · exact h.elim
    · exact h.elim
  · exact h.elim
end Go.Proofs.YtdpflafjfkooeaaGreatDoorG
/- G4: addresses, elements, cuts of values, conversions. -/
namespace Go.Proofs.YtdpflafjfkooeaaGreatDoorG
open Go Go.RowKit
set_option linter.unusedVariables false
set_option linter.unusedSimpArgs false
/-- A pointer content moved on by n cells. -/
def ptrAdd : X → Nat → Option X
  | .p (.one (.pr h off)), n => some (.p (.one (.pr h (off + n))))
  | .p (.one (.er h i)), n => some (.p (.one (.er h (i + n))))
  | .p (.one (.cp xs k)), n => some (.p (.one (.cp xs (k + n))))
  | .p (.one (.v (.pt xs k))), n => some (.p (.one (.cp xs (k + n))))
  | _, _ => none
theorem ptrAdd_rel {w g u x y n} (h : ptrAdd x n = some y) (r : XR w g u x) : ∃ b off, u = .pointer (some ⟨b, off, none⟩) ∧ XR w g (.pointer (some ⟨b, off + n, none⟩)) y := by
  unfold ptrAdd at h
  split at h <;> cases h
  · exact ⟨_, _, r, rfl⟩
  · obtain ⟨b, m, cap, h1, h2⟩ := r; exact ⟨b, _, h2, b, m, cap, h1, rfl⟩
  · obtain ⟨b, off, us, h1, h2, h3⟩ := r; exact ⟨b, _, h1, b, off, us, by rw [Nat.add_assoc], h2, h3⟩
  · obtain ⟨b, off, us, h1, h2, h3⟩ := SVR.cpr r; exact ⟨b, _, h1, b, off, us, by rw [Nat.add_assoc], h2, h3⟩
def vFieldAddr (T : Tab) (Γ : Nm → C) (o : Oper) (t : Nat) (x : Operand) (f : Nat) (K : List Nm → List (Nm × C) → Prop) : Prop :=
  match T t with
  | some ⟨.struct fs, _, _, _⟩ => match fs[f]? with
    | some (ft, off) => match T ft with
      | some i => match ptrAdd (opX Γ x) off with
        | some y => i.size ≠ 0 ∧ K (opR x) (putT o.dst y)
        | none => False
      | none => False
    | none => False
  | _ => False
theorem vFieldAddr_ok {P T Γ nt i o t x f K} (hT : Tok P T) (hd : dOk nt o) (ho : o.op = .fieldAddr t x f) (h : vFieldAddr T Γ o t x f K) : Good P nt i o Γ K := by
  unfold vFieldAddr at h
  split at h
  · rename_i fs sz by' ze ht
    split at h
    · rename_i ft off hf
      split at h
      · rename_i ti htf
        split at h
        · rename_i y hy
          obtain ⟨hne, h⟩ := h
          obtain ⟨fl, hu, hfl⟩ := (hT t _ ht).struct rfl
          obtain ⟨fd, hfd, e1, e2⟩ := hfl f ft off hf
          have hti := hT ft ti htf
          refine ⟨_, _, actOk_val hd (fun Δ a w g hr r => ?_), h⟩
          have h1 := opX_rel r x
          rw [opX_congr (Γ := Γ) hr] at h1
          obtain ⟨b, k, hv, hx⟩ := ptrAdd_rel hy h1
          refine ⟨_, ?_, hx⟩
          simp only [execOp, ho, hv]
          refine run_v ?_
          unfold Instr.fieldAt
          rw [run_bind_ok (run_underlying hu w)]
          simp only [hfd, Instr.sureAddr]
          rw [run_bind_ok (a := (⟨b, k, none⟩ : Addr)) (w' := w) rfl]
          unfold fieldPlace
          have hs := hti.run_size w
          rw [← e1] at hs
          simp [hs, hne, e2, go_sem]
        · exact h.elim
      · exact h.elim
    · exact h.elim
  · exact h.elim
def vIndexAddr (T : Tab) (Γ : Nm → C) (o : Oper) (t : Nat) (x ix : Operand) (K : List Nm → List (Nm × C) → Prop) : Prop :=
  match opX Γ ix with
  | .p (.one (.v (.raw (.int k n)))) => match T t with
    | some ⟨.slice el, _, _, _⟩ => match T el with
      | some ei => match opX Γ x with
        | .p (.one (.v (.sl e xs))) => e = ei.size ∧ 0 ≤ n ∧ n < (cnt e xs : Int) ∧ K (opR x ++ opR ix) (putT o.dst (.p (.one (.cp xs (n.toNat * e)))))
        | .p (.one (.sr h)) => match Γ (.row h) with
          | .row ty e xs => e = ei.size ∧ 0 ≤ n ∧ n < (cnt e xs : Int) ∧ K (opR x ++ opR ix ++ [.row h]) (putT o.dst (.p (.one (.er h (n.toNat * e)))))
          | _ => False
        | _ => False
      | none => False
    | some ⟨.arr m el, _, _, _⟩ => match T el with
      | some ei => match ptrAdd (opX Γ x) (n.toNat * ei.size) with
        | some y => 0 ≤ n ∧ n < (m : Int) ∧ K (opR x ++ opR ix) (putT o.dst y)
        | none => False
      | none => False
    | _ => False
  | _ => False
theorem run_indexAt_slice {P t el i k} {n : Int} {b off len cap : Nat} {w : World} (hu : P.underlying t = some (.slice el)) (hi : TIok P el i) (h0 : 0 ≤ n) (h1 : n < (len : Int)) :
    (Instr.indexAt t (.slice (some ⟨b, off, none⟩) len cap) (.int k n)).run P w = .ok (.pointer (some ⟨b, off + n.toNat * i.size, none⟩)) w := by
  unfold Instr.indexAt
  simp only [asIntOf]
  rw [run_bind_ok (a := (k, n)) (w' := w) rfl]
  have hs := hi.run_size w
  simp [run_underlying hu, hs, h0, h1, go_sem]
theorem run_indexAt_arr {P t el i k} {n : Int} {b off m : Nat} {w : World} (hu : P.underlying t = some (.array m el)) (hi : TIok P el i) (h0 : 0 ≤ n) (h1 : n < (m : Int)) :
    (Instr.indexAt t (.pointer (some ⟨b, off, none⟩)) (.int k n)).run P w = .ok (.pointer (some ⟨b, off + n.toNat * i.size, none⟩)) w := by
  unfold Instr.indexAt
  simp only [asIntOf]
  rw [run_bind_ok (a := (k, n)) (w' := w) rfl]
  have hs := hi.run_size w
  simp [run_underlying hu, hs, h0, h1, Instr.sureAddr, go_sem]
theorem vIndexAddr_ok {P T Γ nt i o t x ix K} (hT : Tok P T) (hd : dOk nt o) (ho : o.op = .indexAddr t x ix) (h : vIndexAddr T Γ o t x ix K) : Good P nt i o Γ K := by
  unfold vIndexAddr at h
  split at h
  · rename_i k n hix
    split at h
    · rename_i el sz by' ze ht
      split at h
      · rename_i ei hei
        have hu := (hT t _ ht).slice rfl
        split at h
        · rename_i e xs hx
          obtain ⟨rfl, h0, h1, h⟩ := h
          refine ⟨_, _, actOk_val hd (fun Δ a w g hr r => ?_), h⟩
          have hx1 := opX_rel r x
          rw [opX_congr (Γ := Γ) fun n hn => hr n (by simp [hn]), hx] at hx1
          have hi1 := opX_rel r ix
          rw [opX_congr (Γ := Γ) fun n hn => hr n (by simp [hn]), hix] at hi1
          generalize hgen : a.eval x = u at *
          cases hx1 with
          | nil ad cap => simp [cnt] at h1; omega
          | sl b off len cap _ _ us hb he hl hxl hc hul hm hr' =>
            have hlen : cnt ei.size xs = len := by rw [cnt, hxl, Nat.mul_div_cancel _ he]
            refine ⟨_, ?_, b, off, us, rfl, hb, hul, hm, hr'⟩
            simp only [execOp, ho, (raw_of hi1).1, hgen]
            exact run_v (run_indexAt_slice hu (hT el ei hei) h0 (by rw [← hlen]; exact h1))
        · rename_i hh hx
          split at h
          · rename_i ty e xs hrow
            obtain ⟨rfl, h0, h1, h⟩ := h
            refine ⟨_, _, actOk_val hd (fun Δ a w g hr r => ?_), h⟩
            have hx1 := opX_rel r x
            rw [opX_congr (Γ := Γ) fun n hn => hr n (by simp [hn]), hx] at hx1
            have hi1 := opX_rel r ix
            rw [opX_congr (Γ := Γ) fun n hn => hr n (by simp [hn]), hix] at hi1
            have rr := r.row (h := hh) (by rw [hr _ (by simp), hrow])
            obtain ⟨ad, m, cap, hh1, hh2, hh3, hh4, hh5, hh6⟩ := rr.head
            have hx2 : a.eval x = g.hd hh := hx1
            cases ad with
            | none => obtain ⟨hnil, _⟩ := hh5 rfl; subst hnil; simp [cnt] at h1; omega
            | some b =>
              obtain ⟨kk, rfl⟩ := hh6 (by rintro rfl; simp [cnt] at h1; omega) b rfl
              refine ⟨_, ?_, kk, m, cap, hh1, rfl⟩
              simp only [execOp, ho, (raw_of hi1).1, hx2, hh1]
              have := run_indexAt_slice (P := P) (k := k) (b := kk) (off := 0) (len := m) (cap := cap) (w := w) hu (hT el ei hei) h0 (by rw [hh2]; exact h1)
              rw [Nat.zero_add] at this
              exact run_v this
          · exact h.elim
        · exact h.elim
      · exact h.elim
    · rename_i m el sz by' ze ht
      split at h
      · rename_i ei hei
        split at h
        · rename_i y hy
          obtain ⟨h0, h1, h⟩ := h
          refine ⟨_, _, actOk_val hd (fun Δ a w g hr r => ?_), h⟩
          have hx1 := opX_rel r x
          rw [opX_congr (Γ := Γ) fun n hn => hr n (by simp [hn])] at hx1
          have hi1 := opX_rel r ix
          rw [opX_congr (Γ := Γ) fun n hn => hr n (by simp [hn]), hix] at hi1
          obtain ⟨b, off, hv, hx2⟩ := ptrAdd_rel hy hx1
          refine ⟨_, ?_, hx2⟩
          simp only [execOp, ho, (raw_of hi1).1, hv]
          exact run_v (run_indexAt_arr ((hT t _ ht).arr rfl) (hT el ei hei) h0 h1)
        · exact h.elim
      · exact h.elim
    · exact h.elim
  · exact h.elim
def byteAt (s : ByteArray) (n : Int) : Int := ((s.data.toList.getD n.toNat 0).toNat : Int)
def vIndex (T : Tab) (Γ : Nm → C) (o : Oper) (t : Nat) (x ix : Operand) (K : List Nm → List (Nm × C) → Prop) : Prop :=
  match opX Γ ix with
  | .p (.one (.v (.raw (.int k n)))) => match T t, opX Γ x with
    | some ⟨.str, _, _, _⟩, .p (.one (.v (.raw (.string s)))) => 0 ≤ n ∧ n < (s.size : Int) ∧ K (opR x ++ opR ix) (putT o.dst (rawX (.int .u8 (byteAt s n))))
    | some ⟨.arr m el, _, _, _⟩, .p (.agg xs) => match T el with
      | some ei => ei.k.agg = false ∧ ei.size = 1 ∧ 0 ≤ n ∧ n < (m : Int) ∧ m ≤ xs.length ∧ K (opR x ++ opR ix) (putT o.dst (.p (.one (tvAt xs n.toNat))))
      | none => False
    | _, _ => False
  | _ => False
theorem vIndex_ok {P T Γ nt i o t x ix K} (hT : Tok P T) (hd : dOk nt o) (ho : o.op = .index t x ix) (h : vIndex T Γ o t x ix K) : Good P nt i o Γ K := by
  unfold vIndex at h
  split at h
  · rename_i k n hix
    split at h
    · rename_i sz by' ze s ht hx
      obtain ⟨h0, h1, h⟩ := h
      refine ⟨_, _, actOk_val hd (fun Δ a w g hr r => ?_), h⟩
      have hx1 := opX_rel r x
      rw [opX_congr (Γ := Γ) fun n hn => hr n (by simp [hn]), hx] at hx1
      have hi1 := opX_rel r ix
      rw [opX_congr (Γ := Γ) fun n hn => hr n (by simp [hn]), hix] at hi1
      refine ⟨_, ?_, .raw _ rfl⟩
      simp only [execOp, ho, (raw_of hi1).1, (raw_of hx1).1]
      refine run_v ?_
      unfold Instr.index
      simp only [asIntOf]
      rw [run_bind_ok (a := (k, n)) (w' := w) rfl]
      have hlt : n.toNat < s.size := by omega
      have hlt' : n.toNat < s.data.size := hlt
      have hb : s[n.toNat]? = some (s.data.toList.getD n.toNat 0) := by
        rw [getElem?_pos s n.toNat hlt]
        simp only [List.getD, Array.getElem?_toList, Array.getElem?_eq_getElem hlt', Option.getD_some]
        rfl
      simp [run_underlying ((hT t _ ht).str rfl), h0, hb, byteAt, go_sem]
    · rename_i m el sz by' ze xs ht hx
      split at h
      · rename_i ei hei
        obtain ⟨ha, hs1, h0, h1, hm, h⟩ := h
        refine ⟨_, _, actOk_val hd (fun Δ a w g hr r => ?_), h⟩
        have hx1 := opX_rel r x
        rw [opX_congr (Γ := Γ) fun n hn => hr n (by simp [hn]), hx] at hx1
        have hi1 := opX_rel r ix
        rw [opX_congr (Γ := Γ) fun n hn => hr n (by simp [hn]), hix] at hi1
        obtain ⟨cs, hv, hall⟩ := hx1
        obtain ⟨v, hp, hx2⟩ := (run_part (hT el ei hei) hall (off := n.toNat) (by omega)).2 ha hs1
        refine ⟨v, ?_, hx2⟩
        simp only [execOp, ho, (raw_of hi1).1, hv]
        refine run_v ?_
        unfold Instr.index
        simp only [asIntOf]
        rw [run_bind_ok (a := (k, n)) (w' := w) rfl]
        have hs := (hT el ei hei).run_size w
        rw [hs1] at hs
        rw [run_bind_ok (run_underlying ((hT t _ ht).arr rfl) w)]
        simp only [h0, h1, and_self, if_true]
        rw [run_bind_ok hs, Nat.mul_one]
        simpa using hp
      · exact h.elim
    · exact h.elim
  · exact h.elim
/-! ### cuts of values -/
def optI (Γ : Nm → C) (d : Int) : Option Operand → Option Int
  | none => some d
  | some x => match opX Γ x with | .p (.one (.v (.raw (.int _ n)))) => some n | _ => none
def optR : Option Operand → List Nm
  | none => []
  | some x => opR x
theorem optI_run {Γ Δ nt a w g d l x} {P : Program} (h : optI Γ d x = some l) (hr : ∀ n ∈ optR x, Δ n = Γ n) (r : Rel Δ nt a w g) (y : Nat) (code : BoundsCode) :
    (x = none ∧ l = d) ∨ ∃ z, x = some z ∧ (0 ≤ l → l ≤ (y : Int) → (Instr.sliceBound (a.eval z) y code).run P w = .ok l.toNat w) := by
  cases x with
  | none => simp [optI] at h; exact .inl ⟨rfl, h.symm⟩
  | some z =>
    refine .inr ⟨z, rfl, fun h0 h1 => ?_⟩
    simp only [optI] at h
    split at h
    · rename_i k n hz
      cases h
      have hx := opX_rel r z
      rw [opX_congr (Γ := Γ) hr, hz] at hx
      rw [(raw_of hx).1]
      simp [Instr.sliceBound, asIntOf, h0, h1, go_sem]
    · cases h
theorem run_bounds {Γ Δ nt a w g l h lo hi} {P : Program} (len cap : Nat) (isS : Bool) (hlo : optI Γ 0 lo = some l) (hhi : optI Γ (len : Int) hi = some h) (hr : ∀ n ∈ optR lo ++ optR hi, Δ n = Γ n) (r : Rel Δ nt a w g)
    (h0 : 0 ≤ l) (h1 : l ≤ h) (h2 : h ≤ (cap : Int)) : (Instr.sliceBounds isS len cap (lo.map a.eval) (hi.map a.eval) none).run P w = .ok (l.toNat, h.toNat, cap) w := by
  have a1 := optI_run (P := P) hlo (fun n hn => hr n (by simp [hn])) r h.toNat .sliceB
  have a2 := optI_run (P := P) hhi (fun n hn => hr n (by simp [hn])) r cap (if isS then .sliceAcap else .sliceAlen)
  unfold Instr.sliceBounds
  rcases a2 with ⟨rfl, rfl⟩ | ⟨z2, rfl, e2⟩ <;> rcases a1 with ⟨rfl, rfl⟩ | ⟨z1, rfl, e1⟩
  · simp [go_sem]
  · have := e1 h0 (by omega)
    simp only [Int.toNat_natCast] at this
    simp only [Option.map_some, Option.map_none]
    generalize hz1 : a.eval z1 = u1 at *
    simp [this, go_sem]
  · have := e2 (by omega) h2
    simp only [Option.map_some, Option.map_none]
    generalize hz2 : a.eval z2 = u2 at *
    simp [this, go_sem]
  · have q2 := e2 (by omega) h2
    have q1 := e1 h0 (by omega)
    simp only [Option.map_some, Option.map_none]
    generalize hz1 : a.eval z1 = u1 at *
    generalize hz2 : a.eval z2 = u2 at *
    simp [q1, q2, go_sem]
def cutSV (e : Nat) (xs : List SV) (l h : Int) : List SV := (xs.drop (l.toNat * e)).take ((h - l).toNat * e)
theorem SVR.noneCap {w o e xs ad len cap} (r : SVR w o (.slice ad len cap) (.sl e xs)) (h : ad = none) : cap = 0 := by
  cases r with
  | nil _ _ _ hn => exact hn h
  | sl => simp at h
theorem SVR.cut {w o e xs ad len cap} {l h : Int} (r : SVR w o (.slice ad len cap) (.sl e xs)) (hl : len = cnt e xs) (h0 : 0 ≤ l) (h1 : l ≤ h) (h2 : h ≤ (cnt e xs : Int)) :
    SVR w o (.slice (if cap = l.toNat then ad else ad.map (·.add (l.toNat * e))) (h.toNat - l.toNat) (cap - l.toNat)) (.sl e (cutSV e xs l h)) := by
  by_cases hz : h = l
  · subst hz
    have : cutSV e xs h h = [] := by simp [cutSV]
    rw [this, Nat.sub_self]
    refine .nil _ _ _ fun hn => ?_
    have hn' : ad = none := by split at hn <;> simp_all
    have := r.noneCap hn'
    omega
  · cases r with
    | nil => simp [cnt] at h2; omega
    | sl b off _ _ _ _ us hb he hlen hx hc hu hm hr =>
      have hcl : cap ≠ l.toNat := by omega
      rw [if_neg hcl]
      simp only [Option.map_some, Addr.add_lit]
      have e3 : (h - l).toNat = h.toNat - l.toNat := by omega
      have hmul : h.toNat * e ≤ len * e := Nat.mul_le_mul_right _ (by omega)
      have hmul2 : l.toNat * e + (h - l).toNat * e = h.toNat * e := by rw [← Nat.add_mul]; congr 1; omega
      have hA := (All2.take (n := (h - l).toNat * e) (All2.drop (n := l.toNat * e) (R := SVR w o) ⟨hu, hr⟩))
      refine .sl b _ _ _ e _ ((us.drop (l.toNat * e)).take ((h - l).toNat * e)) hb he (by omega) ?_ (by omega) hA.1 (fun j u hj => ?_) hA.2
      · simp only [cutSV, List.length_take, List.length_drop]; rw [← e3]; omega
      · rw [List.getElem?_take] at hj
        split at hj
        · rw [List.getElem?_drop] at hj
          rw [Nat.add_assoc]
          exact hm _ u hj
        · cases hj
theorem run_slice_slice {P t el i} {w : World} {a : Act} {ad len cap lo hi l h} (hu : P.underlying t = some (.slice el)) (hi' : TIok P el i)
    (hb : (Instr.sliceBounds true len cap lo hi none).run P w = .ok (l, h, cap) w) :
    (Instr.sliceAt t (.slice ad len cap) lo hi none).run P w = .ok (.slice (if cap = l then ad else ad.map (·.add (l * i.size))) (h - l) (cap - l)) w := by
  unfold Instr.sliceAt
  rw [run_bind_ok (run_underlying hu w)]
  simp only []
  unfold Instr.slice
  have hs := hi'.run_size w
  rw [run_bind_ok (run_underlying hu w)]
  simp only []
  rw [run_bind_ok hb]
  simp only []
  rw [run_bind_ok hs]
  rfl
theorem run_slice_str {P t} {w : World} {s lo hi l h} (hu : P.underlying t = some .string)
    (hb : (Instr.sliceBounds false s.size s.size lo hi none).run P w = .ok (l, h, s.size) w) :
    (Instr.sliceAt t (.string s) lo hi none).run P w = .ok (.string (s.extract l h)) w := by
  unfold Instr.sliceAt
  rw [run_bind_ok (run_underlying hu w)]
  simp only []
  unfold Instr.slice
  rw [run_bind_ok (run_underlying hu w)]
  simp only [Option.isSome_none, Bool.false_eq_true, if_false]
  first
  | rw [run_bind_ok hb]; rfl
  | (rw [run_bind_ok (a := ()) (w' := w) rfl, run_bind_ok hb]; rfl)
def vSliceV (T : Tab) (Γ : Nm → C) (o : Oper) (t : Nat) (x : Operand) (lo hi : Option Operand) (K : List Nm → List (Nm × C) → Prop) : Prop :=
  match T t with
  | some ⟨.str, _, _, _⟩ => match opX Γ x with
    | .p (.one (.v (.raw (.string s)))) => match optI Γ 0 lo, optI Γ (s.size : Int) hi with
      | some l, some h => 0 ≤ l ∧ l ≤ h ∧ h ≤ (s.size : Int) ∧ K (opR x ++ (optR lo ++ optR hi)) (putT o.dst (rawX (.string (s.extract l.toNat h.toNat))))
      | _, _ => False
    | _ => False
  | some ⟨.slice el, _, _, _⟩ => match T el, opX Γ x with
    | some ei, .p (.one (.v (.sl e xs))) => match optI Γ 0 lo, optI Γ (cnt e xs : Int) hi with
      | some l, some h => e = ei.size ∧ 0 ≤ l ∧ l ≤ h ∧ h ≤ (cnt e xs : Int) ∧ K (opR x ++ (optR lo ++ optR hi)) (putT o.dst (.p (.one (.v (.sl e (cutSV e xs l h))))))
      | _, _ => False
    | _, _ => False
  | _ => False
theorem vSliceV_ok {P T Γ nt i o t x lo hi K} (hT : Tok P T) (hd : dOk nt o) (ho : o.op = .slice t x lo hi none) (h : vSliceV T Γ o t x lo hi K) : Good P nt i o Γ K := by
  unfold vSliceV at h
  split at h
  · rename_i sz by' ze ht
    split at h
    · rename_i s hx
      split at h
      · rename_i l hh hlo hhi
        obtain ⟨h0, h1, h2, h⟩ := h
        refine ⟨_, _, actOk_val hd (fun Δ a w g hr r => ?_), h⟩
        have hx1 := opX_rel r x
        rw [opX_congr (Γ := Γ) fun n hn => hr n (by simp [hn]), hx] at hx1
        refine ⟨_, ?_, .raw _ rfl⟩
        simp only [execOp, ho, (raw_of hx1).1]
        exact run_v (run_slice_str ((hT t _ ht).str rfl) (run_bounds s.size s.size false hlo hhi (fun n hn => hr n (by simp only [List.mem_append] at hn ⊢; exact .inr hn)) r h0 h1 h2))
      · exact h.elim
    · exact h.elim
  · rename_i el sz by' ze ht
    split at h
    · rename_i ei e xs hei hx
      split at h
      · rename_i l hh hlo hhi
        obtain ⟨rfl, h0, h1, h2, h⟩ := h
        refine ⟨_, _, actOk_val hd (fun Δ a w g hr r => ?_), h⟩
        have hx1 := opX_rel r x
        rw [opX_congr (Γ := Γ) fun n hn => hr n (by simp [hn]), hx] at hx1
        obtain ⟨ad, n, cap, hv, hn, hc, _⟩ := slOf_head (Γ := Γ) (Δ := Δ) (x := .p (.one (.v (.sl ei.size xs)))) rfl (by simp) r hx1
        rw [hv] at hx1
        refine ⟨_, ?_, SVR.cut hx1 hn h0 h1 h2⟩
        simp only [execOp, ho, hv]
        exact run_v (run_slice_slice (a := a) ((hT t _ ht).slice rfl) (hT el ei hei) (run_bounds n cap true hlo (by rw [hn]; exact hhi) (fun n hn => hr n (by simp only [List.mem_append] at hn ⊢; exact .inr hn)) r h0 h1 (by rw [← hn] at h2; omega)))
      · exact h.elim
    · exact h.elim
  · exact h.elim
/-! ### conversions of numbers, checks of pointers -/
def vConv (T : Tab) (Γ : Nm → C) (o : Oper) (s d : Nat) (x : Operand) (K : List Nm → List (Nm × C) → Prop) : Prop :=
  match T s, T d, opX Γ x with
  | some _, some ⟨.int k, _, _, _⟩, .p (.one (.v (.raw (.int _ n)))) => K (opR x) (putT o.dst (rawX (.int k (k.wrap n))))
  | some ⟨.str, _, _, _⟩, some ⟨.str, _, _, _⟩, .p (.one (.v (.raw (.string b)))) => K (opR x) (putT o.dst (rawX (.string b)))
  | _, _, _ => False
theorem TIok.int {P t i k} (h : TIok P t i) (hk : i.k = .int k) : P.underlying t = some (.int k) := by
  obtain ⟨d, hd, he⟩ := h.und'
  rw [hk] at he
  cases d <;> simp [dK] at he
  rw [hd, he]
theorem vConv_ok {P T Γ nt i o s d x K} (hT : Tok P T) (hd : dOk nt o) (ho : o.op = .convert s d x) (h : vConv T Γ o s d x K) : Good P nt i o Γ K := by
  unfold vConv at h
  split at h
  · rename_i ti k sz by' ze k' n hs hdd hx
    refine ⟨_, _, actOk_val hd (fun Δ a w g hr r => ?_), h⟩
    have hx1 := opX_rel r x
    rw [opX_congr (Γ := Γ) hr, hx] at hx1
    obtain ⟨d', hd', _⟩ := (hT s ti hs).und'
    refine ⟨_, ?_, .raw _ rfl⟩
    simp only [execOp, ho, (raw_of hx1).1]
    exact run_v (by simp [convert, run_underlying hd', run_underlying ((hT d _ hdd).int rfl), Conv.intToInt, go_sem])
  · rename_i sz by' ze sz' by'' ze' b hs hdd hx
    refine ⟨_, _, actOk_val hd (fun Δ a w g hr r => ?_), h⟩
    have hx1 := opX_rel r x
    rw [opX_congr (Γ := Γ) hr, hx] at hx1
    refine ⟨_, ?_, .raw _ rfl⟩
    simp only [execOp, ho, (raw_of hx1).1]
    refine run_v ?_
    unfold convert
    simp [run_underlying ((hT s _ hs).str rfl), run_underlying ((hT d _ hdd).str rfl), go_sem]
  · exact h.elim
def vNilCheck (Γ : Nm → C) (o : Oper) (x : Operand) (K : List Nm → List (Nm × C) → Prop) : Prop :=
  match ptrAdd (opX Γ x) 0 with
  | some _ => K (opR x) (putT o.dst (opX Γ x))
  | none => False
theorem vNilCheck_ok {P Γ nt i o x K} (hd : dOk nt o) (ho : o.op = .nilCheck x) (h : vNilCheck Γ o x K) : Good P nt i o Γ K := by
  unfold vNilCheck at h
  split at h
  · rename_i y hy
    refine ⟨_, _, actOk_val hd (fun Δ a w g hr r => ?_), h⟩
    have hx1 := opX_rel r x
    rw [opX_congr (Γ := Γ) hr] at hx1
    obtain ⟨b, off, hv, _⟩ := ptrAdd_rel hy hx1
    refine ⟨a.eval x, ?_, hx1⟩
    simp only [execOp, ho, hv]
    rfl
  · exact h.elim
end Go.Proofs.YtdpflafjfkooeaaGreatDoorG
