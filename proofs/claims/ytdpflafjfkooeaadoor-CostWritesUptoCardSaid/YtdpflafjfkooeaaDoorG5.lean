/- G5: operations that make or write memory. -/
import Derived.Test.YtdpflafjfkooeaaDoorG4
namespace Go.Proofs.YtdpflafjfkooeaaDoorG
open Go Go.RowKit
set_option linter.unusedVariables false
set_option linter.unusedSimpArgs false

theorem opX_unm {Γ : Nm → C} {k} (h : Unm Γ k) (x : Operand) : ¬ (opX Γ x).ment k := by
  cases x with
  | tmp t =>
    simp only [opX]
    have := (h (.t t)).1
    cases hc : Γ (.t t) with
    | t y => rw [hc] at this; exact this
    | _ => simp [deadX, X.ment, PX.ment, TV.ment]
  | const v =>
    simp only [opX]
    split
    · simp [X.ment, PX.ment, TV.ment]
    · split <;> simp [rawX, deadX, X.ment, PX.ment, TV.ment]
  | func f => simp [opX, rawX, X.ment, PX.ment, TV.ment]
  | global g => simp [opX, deadX, X.ment, PX.ment, TV.ment]

/-! ### the ghosts of a new box, a new row -/
def Gh.newBox (g : Gh) (h b : Nat) : Gh := { o := fun b' => if b' = b then .box h else g.o b', hd := g.hd, bk := fun k => if k = h then b else g.bk k }
def Gh.newRow (g : Gh) (h : Nat) (v : Value) : Gh := { o := fun b' => if v.ownBlock = some b' then .row h else g.o b', hd := fun k => if k = h then v else g.hd k, bk := g.bk }

theorem tag_lt {Γ nt a w g} (r : Rel Γ nt a w g) : g.o w.heap.size = .other := by
  cases h : g.o w.heap.size <;> first | rfl | (have := r.tags w.heap.size (by rw [h]; simp); omega)

/-- A new box. -/
theorem new_box {Γ nt a w g} (r : Rel Γ nt a w g) {h : Nat} (hu : Unm Γ h) (cs : Array Value) (ty : Nat) (xs : List TV) (hm : ∀ x ∈ xs, ¬ x.ment h ∧ ∀ k, x.ment k → ¬ Unm Γ k ∨ True) (hc : All2 (TVR w g) cs.toList xs) :
    Rel (up Γ (.box h) (.box ty xs)) nt a (w.alloc (.cells cs ty)) (g.newBox h w.heap.size) ∧ Fr w (w.alloc (.cells cs ty)) g.o (g.newBox h w.heap.size).o ∧
      XR (w.alloc (.cells cs ty)) (g.newBox h w.heap.size) (.pointer (some ⟨w.heap.size, 0, none⟩)) (.p (.one (.pr h 0))) := by
  have hto := tag_lt r
  have hold : ∀ b, b < w.heap.size → (w.alloc (.cells cs ty)).heap[b]? = w.heap[b]? := fun b hb => heap_alloc_old w _ hb
  have ext : ∀ M : Nat → Prop, (∀ k, M k → k ≠ h) → Ext w (w.alloc (.cells cs ty)) g (g.newBox h w.heap.size) none M := fun M hM =>
    ⟨by simp, fun b hb _ => ⟨hold b (r.tags b hb), by
        have hne : b ≠ w.heap.size := fun e => hb (by rw [e]; exact hto)
        simp [Gh.newBox, hne]⟩,
      fun b hb => by
        by_cases e : b = w.heap.size
        · subst e; simp
        · have := r.tags b (by simpa [Gh.newBox, e] using hb); simp; omega,
      fun k _ => rfl, fun k hk => by simp [Gh.newBox, hM k hk]⟩
  refine ⟨(r.ext (ext _ fun k hk e => hk (e ▸ hu))).upd ?_, ⟨rfl, rfl, rfl, by simp, fun b hb ho => ⟨hold b hb, by
    have : b ≠ w.heap.size := by omega
    simp [Gh.newBox, this]⟩, fun b hb ⟨k, hk⟩ => by
    have : b ≠ w.heap.size := by omega
    exact ⟨by simp [Gh.newBox, this, hk, Tag.nr], Shp.of_eq (hold b hb)⟩⟩, by simp [XR, PXR, TVR, Gh.newBox]⟩
  refine ⟨cs, by simp only [Gh.newBox, if_true]; exact heap_alloc_new w _, by simp [Gh.newBox], hc.mono' fun u x hx => (ext (fun k => k ≠ h) fun k hk => hk).tvr fun k hk e => ?_⟩
  subst e
  exact (hm x hx).1 hk

/-- A new row, whose header is not a block that something else speaks of. -/
theorem new_row {Γ nt a w g w'} (r : Rel Γ nt a w g) {h : Nat} (hu : Unm Γ h) {v : Value} {ty e n : Nat} {vs : List Value} {xs : List SV} (he : 0 < e) (hn : xs.length = n * e)
    (hg : w.grownBy w' none) (ho : w'.ownsRow 0 ty e v n vs) (hb : ∀ b, v.ownBlock = some b → w.heap.size ≤ b) (hx : All2 (SVR w g.o) vs xs) :
    Rel (up Γ (.row h) (.row ty e xs)) nt a w' (g.newRow h v) ∧ Fr w w' g.o (g.newRow h v).o ∧ XR w' (g.newRow h v) v (.p (.one (.sr h))) := by
  have hlt := ho.lt
  have hold : ∀ b, b < w.heap.size → w'.heap[b]? = w.heap[b]? := fun b hb => hg.block b hb (by simp)
  have ext : ∀ M : Nat → Prop, (∀ k, M k → k ≠ h) → Ext w w' g (g.newRow h v) none M := fun M hM =>
    ⟨hg.size, fun b hb' _ => ⟨hold b (r.tags b hb'), by
        have hne : v.ownBlock ≠ some b := fun e => by have := hb b e; have := r.tags b hb'; omega
        simp [Gh.newRow, hne]⟩,
      fun b hb' => by
        by_cases e : v.ownBlock = some b
        · exact (hlt b e).2
        · have := r.tags b (by simpa [Gh.newRow, e] using hb'); have := hg.size; omega,
      fun k hk => by simp [Gh.newRow, hM k hk], fun k _ => rfl⟩
  refine ⟨(r.ext (ext _ fun k hk e => hk (e ▸ hu))).upd ?_, ⟨hg.os, hg.tape, hg.output, hg.size, fun b hb' hoo => ⟨hold b hb', by
    have : v.ownBlock ≠ some b := fun e => by have := hb b e; omega
    simp [Gh.newRow, this]⟩, fun b hb' ⟨k, hk⟩ => by
    have : v.ownBlock ≠ some b := fun e => by have := hb b e; omega
    exact ⟨by simp [Gh.newRow, this, hk, Tag.nr], Shp.of_eq (hold b hb')⟩⟩, by simp [XR, PXR, TVR, Gh.newRow]⟩
  exact ⟨n, vs, he, hn, .inl ⟨by simpa [Gh.newRow] using ho, fun b hb' => by
    have : v.ownBlock = some b := by simpa [Gh.newRow] using hb'
    simp [Gh.newRow, this]⟩, hx.mono fun u x => (ext (fun _ => False) (by simp)).svr⟩

/-! ### contents as cells -/
def isRow : C → Bool
  | .row .. => true
  | _ => false
def cellOk (Γ : Nm → C) : TV → Bool
  | .dead => false
  | .sr h => isRow (Γ (.row h))
  | _ => true
def tvNm : TV → List Nm
  | .sr h => [.row h]
  | _ => []
theorem cell_one {Γ Δ nt a w g u} {x : TV} (r : Rel Δ nt a w g) (hr : ∀ n ∈ tvNm x, Δ n = Γ n) (hk : cellOk Γ x = true) (h : TVR w g u x) : u.oneCell' = true ∧ u.cells = #[u] := by
  have key : u.oneCell' = true := by
    cases x with
    | v x => exact SVR.oneCell h
    | sr k =>
      simp only [cellOk] at hk
      cases hc : Γ (.row k) with
      | row ty e xs =>
        obtain ⟨ad, n, cap, h1, _⟩ := (r.row (h := k) (by rw [hr _ (by simp [tvNm]), hc])).head
        have h' : u = g.hd k := h
        rw [h', h1]; rfl
      | _ => simp [hc, isRow] at hk
    | pr k off => have h' : u = _ := h; rw [h']; rfl
    | er k i => obtain ⟨b, n, c, _, h2⟩ := h; rw [h2]; rfl
    | cp xs k => obtain ⟨b, off, us, h1, _⟩ := h; rw [h1]; rfl
    | nl ty e => have h' : u = _ := h; rw [h']; rfl
    | nn e xs => exact SVR.oneCell h.1
    | cb f hs => have h' : u = _ := h; rw [h']; rfl
    | dead => simp [cellOk] at hk
  refine ⟨key, ?_⟩
  cases u <;> simp_all [Value.oneCell', Value.cells]

/-- The nil slice of a type that is known. -/
def nlAs (T : Tab) (t : Nat) : X → X
  | .p (.one (.nl 0 0)) => match T t with
    | some ⟨.slice el, _, _, _⟩ => match T el with | some ei => .p (.one (.nl el ei.size)) | none => .p (.one (.nl 0 0))
    | _ => .p (.one (.nl 0 0))
  | x => x
theorem nlAs_rel {T t w g u x} (h : XR w g u x) : XR w g u (nlAs T t x) := by
  unfold nlAs
  split
  · split
    · split <;> exact h
    · exact h
  · exact h
theorem nlAs_ment {T t x k} (h : (nlAs T t x).ment k) : x.ment k := by
  unfold nlAs at h
  split at h
  · split at h
    · split at h <;> exact h
    · exact h
  · exact h
/-- The cells of a content. -/
def cellsOf : X → List TV
  | .p (.one x) => [x]
  | .p (.agg xs) => xs
  | .tup _ => [.dead]
theorem cellsOf_ment {x : X} {y k} (hy : y ∈ cellsOf x) (h : y.ment k) : x.ment k := by
  cases x with
  | p p => cases p with
    | one z => simp [cellsOf] at hy; subst hy; exact h
    | agg xs => exact ⟨y, hy, h⟩
  | tup xs => simp [cellsOf] at hy; subst hy; exact absurd h (by simp [TV.ment])
theorem cellsOf_rel {Γ Δ nt a w g u x} (r : Rel Δ nt a w g) (hr : ∀ n ∈ (cellsOf x).flatMap tvNm, Δ n = Γ n) (hk : (cellsOf x).all (cellOk Γ) = true) (h : XR w g u x) :
    All2 (TVR w g) u.cells.toList (cellsOf x) ∧ (∀ v ∈ u.cells.toList, v.oneCell' = true) := by
  cases x with
  | tup xs => simp [cellsOf, cellOk] at hk
  | p p => cases p with
    | one z =>
      simp only [cellsOf, List.all_cons, List.all_nil, Bool.and_true] at hk
      obtain ⟨h1, h2⟩ := cell_one r (fun n hn => hr n (by simp [cellsOf, hn])) hk h
      rw [h2]
      exact ⟨All2.cons h All2.nil, by simpa using h1⟩
    | agg xs =>
      obtain ⟨cs, rfl, hall⟩ := h
      refine ⟨hall, fun v hv => ?_⟩
      obtain ⟨j, hj⟩ := List.mem_iff_getElem?.1 hv
      have hlt : j < xs.length := by rw [← hall.1]; exact (List.getElem?_eq_some_iff.1 hj).1
      have hx := hall.2 j v xs[j] hj (List.getElem?_eq_getElem hlt)
      have hmem : xs[j] ∈ xs := List.getElem_mem hlt
      exact (cell_one r (fun n hn => hr n (List.mem_flatMap.2 ⟨xs[j], hmem, hn⟩)) (List.all_eq_true.1 hk _ hmem) hx).1

/-! ### alloc, box -/
def zTV : ZC → TV
  | .raw v => .v (.raw v)
  | .nil ty e => .nl ty e
theorem zTV_rel {w g z} (h : z.ok = true) : TVR w g z.val (zTV z) := by
  cases z with
  | raw v => exact .raw v h
  | nil ty e => rfl
theorem all2_map {α β γ : Type} {R : α → β → Prop} {f : γ → α} {k : γ → β} {l : List γ} (h : ∀ z ∈ l, R (f z) (k z)) : All2 R (l.map f) (l.map k) := by
  induction l with
  | nil => exact .nil
  | cons z l ih => exact .cons (h z (by simp)) (ih fun z hz => h z (by simp [hz]))
def vAlloc (T : Tab) (i : Nat) (o : Oper) (t : Nat) (K : List Nm → List (Nm × C) → Prop) : Prop :=
  match T t with
  | some ti => K [] (putT o.dst (.p (.one (.pr (th i 0) 0))) ++ [(.box (th i 0), .box t (ti.zero.map zTV))])
  | none => False
theorem run_newVar {P : Program} (t : Nat) (v : Value) (w : World) : (newVar t v).run P w = .ok ⟨w.heap.size, 0, none⟩ (w.alloc (.cells v.cells t)) := by
  rfl
theorem vAlloc_ok {P T Γ nt i o t K} (hT : Tok P T) (hd : dOk nt o) (ho : o.op = .alloc t) (h : vAlloc T i o t K) : Good P nt i o Γ K := by
  unfold vAlloc at h
  split at h
  · rename_i ti ht
    refine ⟨_, _, ?_, h⟩
    intro Δ a w g Q K' hr hu r hk
    obtain ⟨z, hz, hzc⟩ := (hT t ti ht).run_zero w
    have hzok := (hT t ti ht).zok
    have hrun : (execOp a.eval o).run P w = .ok (.value (.pointer (some ⟨w.heap.size, 0, none⟩))) (w.alloc (.cells z.cells t)) := by
      simp only [execOp, ho]
      refine run_v ?_
      unfold Instr.alloc
      rw [run_bind_ok hz]
      simp only []
      rw [run_bind_ok (run_newVar t z w)]
      rfl
    obtain ⟨r1, f1, x1⟩ := new_box r (hu (th i 0) (isTh_th (by omega))) z.cells t (ti.zero.map zTV) (fun x hx => by
      obtain ⟨c, _, rfl⟩ := List.mem_map.1 hx
      cases c <;> simp [zTV, TV.ment]) (by rw [hzc]; exact all2_map fun c hc => zTV_rel (List.all_eq_true.1 hzok c hc))
    exact wp_value hrun (hk _ _ _ (rel_putT' (Γ := Δ) hd (wr := [(.box (th i 0), _)]) r1 x1) f1)
  · exact h.elim
def vBox (T : Tab) (Γ : Nm → C) (i : Nat) (o : Oper) (t : Nat) (x : Operand) (K : List Nm → List (Nm × C) → Prop) : Prop :=
  let y := nlAs T t (opX Γ x)
  (cellsOf y).all (cellOk Γ) = true ∧ K (opR x ++ (cellsOf y).flatMap tvNm) (putT o.dst (.p (.one (.pr (th i 0) 0))) ++ [(.box (th i 0), .box t (cellsOf y))])
theorem vBox_ok {P T Γ nt i o t x K} (hd : dOk nt o) (ho : o.op = .box t x) (h : vBox T Γ i o t x K) : Good P nt i o Γ K := by
  unfold vBox at h
  obtain ⟨hok, h⟩ := h
  refine ⟨_, _, ?_, h⟩
  intro Δ a w g Q K' hr hu r hk
  have hx := opX_rel r x
  have hc := opX_congr (Γ := Γ) (Δ := Δ) (x := x) fun n hn => hr n (by simp [hn])
  have hun := opX_unm (hu (th i 0) (isTh_th (by omega))) x
  rw [hc] at hx hun
  have hx' := nlAs_rel (T := T) (t := t) hx
  obtain ⟨hall, _⟩ := cellsOf_rel (Γ := Γ) r (fun n hn => hr n (List.mem_append_right _ hn)) hok hx'
  have hrun : (execOp a.eval o).run P w = .ok (.value (.pointer (some ⟨w.heap.size, 0, none⟩))) (w.alloc (.cells (a.eval x).cells t)) := by
    simp only [execOp, ho]
    refine run_v ?_
    unfold Instr.box
    rw [run_bind_ok (run_newVar t _ w)]
    rfl
  obtain ⟨r1, f1, x1⟩ := new_box r (hu (th i 0) (isTh_th (by omega))) _ t _ (fun y hy => ⟨fun hm => hun (nlAs_ment (cellsOf_ment hy hm)), fun _ _ => .inr trivial⟩) hall
  exact wp_value hrun (hk _ _ _ (rel_putT' (Γ := Δ) hd (wr := [(.box (th i 0), _)]) r1 x1) f1)

/-! ### stores -/
def putAt {α : Type} (xs : List α) (k : Nat) (ys : List α) : List α := xs.take k ++ ys ++ xs.drop (k + ys.length)
theorem All2.putAt {α β : Type} {R : α → β → Prop} {us : List α} {xs : List β} (h : All2 R us xs) (k : Nat) {vs ys} (h' : All2 R vs ys) : All2 R (putAt us k vs) (putAt xs k ys) := by
  unfold Go.Proofs.YtdpflafjfkooeaaDoorG.putAt
  rw [h'.1]
  exact ((h.take k).append h').append (h.drop _)
def svs : List TV → Option (List SV)
  | [] => some []
  | .v x :: r => (svs r).map (x :: ·)
  | _ :: _ => none
theorem svs_rel {w g us xs ys} (h : svs xs = some ys) (r : All2 (TVR w g) us xs) : All2 (SVR w g.o) us ys := by
  induction xs generalizing us ys with
  | nil => simp [svs] at h; subst h; cases us with
    | nil => exact .nil
    | cons u us => have := r.1; simp at this
  | cons x xs ih =>
    cases us with
    | nil => have := r.1; simp at this
    | cons u us =>
      cases x <;> simp [svs] at h
      obtain ⟨zs, hz, rfl⟩ := h
      exact .cons r.head (ih hz r.tail)
def vStore (T : Tab) (Γ : Nm → C) (o : Oper) (t : Nat) (p x : Operand) (K : List Nm → List (Nm × C) → Prop) : Prop :=
  let y := nlAs T t (opX Γ x)
  o.dst = none ∧ (cellsOf y).all (cellOk Γ) = true ∧ match T t, opX Γ p with
  | some ti, .p (.one (.pr h k)) => match Γ (.box h) with
    | .box ty xs => (cellsOf y).length = ti.size ∧ k + ti.size ≤ xs.length ∧ K (opR p ++ opR x ++ (cellsOf y).flatMap tvNm ++ [.box h]) [(.box h, .box ty (putAt xs k (cellsOf y)))]
    | _ => False
  | some ti, .p (.one (.er h k)) => match Γ (.row h), svs (cellsOf y) with
    | .row ty e xs, some ys => 0 < ti.size ∧ (cellsOf y).length = ti.size ∧ k + ti.size ≤ xs.length ∧ K (opR p ++ opR x ++ (cellsOf y).flatMap tvNm ++ [.row h]) [(.row h, .row ty e (putAt xs k ys))]
    | _, _ => False
  | _, _ => False
theorem run_storeVar {P t i} (h : TIok P t i) {w : World} {b k : Nat} {cur : Array Value} {ty : Nat} {v : Value} (hb : w.heap[b]? = some (.cells cur ty (0, 0))) (hn : v.cells.size = i.size) (hk : k + i.size ≤ cur.size)
    (h1 : ∀ u ∈ v.cells.toList, u.oneCell' = true) : (storeVar t ⟨b, k, none⟩ v).run P w = .ok () (w.setRow b (putAt cur.toList k v.cells.toList).toArray) := by
  unfold storeVar
  rw [run_bind_ok (h.run_size w)]
  rw [if_neg (by simpa using hn)]
  have := run_storeCells_at P b k ty v.cells.toList 0 cur w hb (by simp; omega) h1
  simp only [Nat.add_zero] at this
  exact this
theorem svs_length {xs ys} (h : svs xs = some ys) : ys.length = xs.length := by
  induction xs generalizing ys with
  | nil => simp [svs] at h; subst h; rfl
  | cons x xs ih => cases x <;> simp [svs] at h; obtain ⟨zs, hz, rfl⟩ := h; simp [ih hz]
theorem putAt_length {α : Type} {xs : List α} {k ys} (h : k + ys.length ≤ xs.length) : (putAt xs k ys).length = xs.length := by
  simp [putAt]; omega
theorem putAt_take {α : Type} {xs : List α} {k n : Nat} {ys} (h : k + ys.length ≤ n) (hn : n ≤ xs.length) : (putAt xs k ys).take n = putAt (xs.take n) k ys := by
  unfold putAt
  rw [List.take_append, List.take_append, List.take_of_length_le (l := xs.take k) (by simp; omega), List.take_of_length_le (l := ys) (by simp; omega), List.take_take, Nat.min_eq_left (by omega), List.drop_take]
  simp
  omega
theorem vStore_ok {P T Γ nt i o t p x K} (hT : Tok P T) (ho : o.op = .store t p x) (h : vStore T Γ o t p x K) : Good P nt i o Γ K := by
  unfold vStore at h
  obtain ⟨hnd, hok, h⟩ := h
  split at h
  · rename_i ti hh k htt hp
    split at h
    · rename_i ty xs hbox
      obtain ⟨hl, hk, h⟩ := h
      refine ⟨_, _, ?_, h⟩
      intro Δ a w g Q K' hr hu r hK
      have hx := opX_rel r x
      rw [opX_congr (Γ := Γ) fun n hn => hr n (by simp [hn])] at hx
      have hpx := opX_rel r p
      rw [opX_congr (Γ := Γ) fun n hn => hr n (by simp [hn]), hp] at hpx
      obtain ⟨hall, h1⟩ := cellsOf_rel (Γ := Γ) r (fun n hn => hr n (by simp only [List.mem_append]; exact .inl (.inr hn))) hok (nlAs_rel (T := T) (t := t) hx)
      obtain ⟨cur, hb1, hb2, hb3⟩ := r.box (h := hh) (by rw [hr _ (by simp), hbox])
      have hpv : a.eval p = .pointer (some ⟨g.bk hh, k, none⟩) := hpx
      have hcs : cur.size = xs.length := by have := hb3.1; simpa using this
      have hvs : (a.eval x).cells.size = ti.size := by rw [← hl, ← hall.1]; simp
      have hrun : (execOp a.eval o).run P w = .ok .skip (w.setRow (g.bk hh) (putAt cur.toList k (a.eval x).cells.toList).toArray) := by
        simp only [execOp, ho, hpv]
        refine run_u ?_
        simp only [Instr.storeAt, Instr.sureAddr]
        rw [run_bind_ok (a := (⟨g.bk hh, k, none⟩ : Addr)) (w' := w) rfl]
        exact run_storeVar (hT t ti htt) hb1 hvs (by omega) h1
      have ext : Ext w (w.setRow (g.bk hh) (putAt cur.toList k (a.eval x).cells.toList).toArray) g g (some (.box hh)) fun k => ¬ Unm Δ k :=
        ⟨by simp, fun b hb hn => ⟨setRow_other w _ b _ fun e => hn _ rfl (by rw [e]; exact hb2), rfl⟩, fun b hb => by have := r.tags b hb; simpa using this, fun _ _ => rfl, fun _ _ => rfl⟩
      have hshp : ∀ b, Shp w (w.setRow (g.bk hh) (putAt cur.toList k (a.eval x).cells.toList).toArray) b := fun b => by
        by_cases e : b = g.bk hh
        · subst e
          intro c1 t1 f1 hc1
          rw [hb1] at hc1
          cases hc1
          refine ⟨_, setRow_heap w _ cur _ ty _ hb1, ?_⟩
          have hvs' : (a.eval x).cells.toList.length = ti.size := by simpa using hvs
          simp only [List.size_toArray]
          rw [putAt_length (by simp; omega)]; simp
        · exact Shp.of_eq (setRow_other w _ b _ e)
      refine wp_skip' hrun (hK _ _ g ?_ ⟨rfl, rfl, rfl, by simp, fun b hb ho' => ⟨setRow_other w _ b _ fun e => ?_, rfl⟩, fun b hb ⟨k, hk⟩ => ⟨by rw [hk]; rfl, hshp b⟩⟩)
      · rw [hnd]
        refine r.extUp ext ⟨_, setRow_heap w _ cur _ ty _ hb1, hb2, ?_⟩
        have e2 : All2 (TVR (w.setRow (g.bk hh) (putAt cur.toList k (a.eval x).cells.toList).toArray) g) (putAt cur.toList k (a.eval x).cells.toList) (putAt xs k (cellsOf (nlAs T t (opX Γ x)))) :=
          (hb3.putAt k hall).mono fun u y hy => by
            have e3 : Ext w (w.setRow (g.bk hh) (putAt cur.toList k (a.eval x).cells.toList).toArray) g g (some (.box hh)) fun _ => True := ⟨ext.size, ext.blk, ext.new, fun _ _ => rfl, fun _ _ => rfl⟩
            exact e3.tvr (fun _ _ => trivial) hy
        simpa using e2
      · rw [e, hb2] at ho'; simp at ho'
    · exact h.elim
  · rename_i ti hh k htt hp
    split at h
    · rename_i ty e xs ys hrow hys
      obtain ⟨hsz0, hl, hk, h⟩ := h
      refine ⟨_, _, ?_, h⟩
      intro Δ a w g Q K' hr hu r hK
      have hx := opX_rel r x
      rw [opX_congr (Γ := Γ) fun n hn => hr n (by simp [hn])] at hx
      have hpx := opX_rel r p
      rw [opX_congr (Γ := Γ) fun n hn => hr n (by simp [hn]), hp] at hpx
      obtain ⟨hall, h1⟩ := cellsOf_rel (Γ := Γ) r (fun n hn => hr n (by simp only [List.mem_append]; exact .inl (.inr hn))) hok (nlAs_rel (T := T) (t := t) hx)
      obtain ⟨n, vs, he, hn, hown', hall2⟩ := r.row (h := hh) (by rw [hr _ (by simp), hrow])
      obtain ⟨hown, htag⟩ : w.ownsRow 0 ty e (g.hd hh) n vs ∧ ∀ b, (g.hd hh).ownBlock = some b → g.o b = .row hh := by
        rcases hown' with hq | ⟨q1, q2, _⟩
        · exact hq
        · subst q1; simp at hn; subst hn; simp at hk; omega
      obtain ⟨b, n', cap, hhd, hpv⟩ : ∃ b n cap, g.hd hh = .slice (some ⟨b, 0, none⟩) n cap ∧ a.eval p = .pointer (some ⟨b, k, none⟩) := hpx
      rcases hown.2 with ⟨h0, _⟩ | ⟨b', cap', cur, h0, _, hb1, hnc, hcm, hcur, htake⟩
      · rw [hhd] at h0; simp at h0
      · rw [hhd] at h0
        simp only [Value.slice.injEq, Option.some.injEq, Addr.mk.injEq, and_true] at h0
        obtain ⟨rfl, rfl, rfl⟩ := h0
        have hvl : vs.length = n' * e := hown.1
        have hys' := svs_length hys
        have htagb : g.o b = .row hh := htag b (by rw [hhd]; rfl)
        have hvs : (a.eval x).cells.size = ti.size := by rw [← hl, ← hall.1]; simp
        have hle : n' * e ≤ cur.size := by rw [hcur]; exact Nat.mul_le_mul_right _ hnc
        have hrun : (execOp a.eval o).run P w = .ok .skip (w.setRow b (putAt cur.toList k (a.eval x).cells.toList).toArray) := by
          simp only [execOp, ho, hpv]
          refine run_u ?_
          simp only [Instr.storeAt, Instr.sureAddr]
          rw [run_bind_ok (a := (⟨b, k, none⟩ : Addr)) (w' := w) rfl]
          exact run_storeVar (hT t ti htt) hb1 hvs (by omega) h1
        have ext : Ext w (w.setRow b (putAt cur.toList k (a.eval x).cells.toList).toArray) g g (some (.row hh)) fun _ => True :=
          ⟨by simp, fun b' hb' hn => ⟨setRow_other w _ b' _ fun e => hn _ rfl (by rw [e]; exact htagb), rfl⟩, fun b hb => by have := r.tags b hb; simpa using this, fun _ _ => rfl, fun _ _ => rfl⟩
        have ext' : Ext w (w.setRow b (putAt cur.toList k (a.eval x).cells.toList).toArray) g g (some (.row hh)) fun k => ¬ Unm Δ k := ⟨ext.size, ext.blk, ext.new, fun _ _ => rfl, fun _ _ => rfl⟩
        refine wp_skip' hrun (hK _ _ g ?_ ⟨rfl, rfl, rfl, by simp, fun b' hb' ho' => ⟨setRow_other w _ b' _ fun e => ?_, rfl⟩, fun b' hb' ⟨k, hk⟩ => ⟨by rw [hk]; rfl, Shp.of_eq (setRow_other w _ b' _ fun e => by rw [e, htagb] at hk; cases hk)⟩⟩)
        · rw [hnd]
          have hvc : (a.eval x).cells.toList.length = ti.size := by simpa using hvs
          refine r.extUp ext' ⟨n', putAt vs k (a.eval x).cells.toList, he, by rw [putAt_length (by omega)]; exact hn, .inl ⟨⟨by rw [putAt_length (by omega)]; exact hvl, .inr ⟨b, cap, _, hhd, Nat.zero_le _, setRow_heap w _ cur _ ty _ hb1, hnc, hcm, ?_, ?_⟩⟩, htag⟩, ?_⟩
          · simp only [List.size_toArray]; rw [putAt_length (by simp; omega)]; simpa using hcur
          · simp only [List.toList_toArray]
            rw [putAt_take (by omega) (by simp; omega), htake]
          · exact (hall2.putAt k (svs_rel hys hall)).mono fun u y => ext.svr
        · rw [e, htagb] at ho'; simp at ho'
    · exact h.elim
  · exact h.elim

end Go.Proofs.YtdpflafjfkooeaaDoorG
