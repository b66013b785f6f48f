/- YtdpflafjfkooeaaGreatDoorZ3: a part of the proof, joined of its texts. -/
import Derived.Test.YtdpflafjfkooeaaGreatDoorZ2
/- G5: operations that make or write memory. -/
namespace Go.Proofs.YtdpflafjfkooeaaGreatDoorG
open Go Go.RowKit
set_option linter.unusedVariables false
set_option linter.unusedSimpArgs false
theorem opX_unm {Γ : Nm → C} {k} (h : Unm Γ k) (x : Operand) : ¬ (opX Γ x).ment k := by
  cases x with
  | tmp t =>
    simp only [opX]
    have := (h (.t t)).1
    cases hc : Γ (.t t) with
    | t y => rw [hc] at this; exact this
    | _ => simp [deadX, X.ment, PX.ment, TV.ment]
  | const v =>
    simp only [opX]
    split
    · simp [X.ment, PX.ment, TV.ment]
    · split <;> simp [rawX, deadX, X.ment, PX.ment, TV.ment]
  | func f => simp [opX, rawX, X.ment, PX.ment, TV.ment]
  | global g => simp [opX, deadX, X.ment, PX.ment, TV.ment]
/-! ### the ghosts of a new box, a new row -/
def Gh.newBox (g : Gh) (h b : Nat) : Gh := { o := fun b' => if b' = b then .box h else g.o b', hd := g.hd, bk := fun k => if k = h then b else g.bk k }
def Gh.newRow (g : Gh) (h : Nat) (v : Value) : Gh := { o := fun b' => if v.ownBlock = some b' then .row h else g.o b', hd := fun k => if k = h then v else g.hd k, bk := g.bk }
theorem tag_lt {Γ nt a w g} (r : Rel Γ nt a w g) : g.o w.heap.size = .other := by
  cases h : g.o w.heap.size <;> first | rfl | (have := r.tags w.heap.size (by rw [h]; simp); omega)
/-- A new box. -/
theorem new_box {Γ nt a w g} (r : Rel Γ nt a w g) {h : Nat} (hu : Unm Γ h) (cs : Array Value) (ty : Nat) (xs : List TV) (hm : ∀ x ∈ xs, ¬ x.ment h ∧ ∀ k, x.ment k → ¬ Unm Γ k ∨ True) (hc : All2 (TVR w g) cs.toList xs) :
    Rel (up Γ (.box h) (.box ty xs)) nt a (w.alloc (.cells cs ty)) (g.newBox h w.heap.size) ∧ Fr w (w.alloc (.cells cs ty)) g.o (g.newBox h w.heap.size).o ∧
      XR (w.alloc (.cells cs ty)) (g.newBox h w.heap.size) (.pointer (some ⟨w.heap.size, 0, none⟩)) (.p (.one (.pr h 0))) := by
  have hto := tag_lt r
  have hold : ∀ b, b < w.heap.size → (w.alloc (.cells cs ty)).heap[b]? = w.heap[b]? := fun b hb => heap_alloc_old w _ hb
  have ext : ∀ M : Nat → Prop, (∀ k, M k → k ≠ h) → Ext w (w.alloc (.cells cs ty)) g (g.newBox h w.heap.size) none M := fun M hM =>
    ⟨by simp, fun b hb _ => ⟨hold b (r.tags b hb), by
        have hne : b ≠ w.heap.size := fun e => hb (by rw [e]; exact hto)
        simp [Gh.newBox, hne]⟩,
      fun b hb => by
        by_cases e : b = w.heap.size
        · subst e; simp
        · have := r.tags b (by simpa [Gh.newBox, e] using hb); simp; omega,
      fun k _ => rfl, fun k hk => by simp [Gh.newBox, hM k hk]⟩
  refine ⟨(r.ext (ext _ fun k hk e => hk (e ▸ hu))).upd ?_, ⟨rfl, rfl, rfl, by simp, fun b hb ho => ⟨hold b hb, by
    have : b ≠ w.heap.size := by omega
    simp [Gh.newBox, this]⟩, fun b hb ⟨k, hk⟩ => by
    have : b ≠ w.heap.size := by omega
    exact ⟨by simp [Gh.newBox, this, hk, Tag.nr], Shp.of_eq (hold b hb)⟩⟩, by simp [XR, PXR, TVR, Gh.newBox]⟩
  refine ⟨cs, by simp only [Gh.newBox, if_true]; exact heap_alloc_new w _, by simp [Gh.newBox], hc.mono' fun u x hx => (ext (fun k => k ≠ h) fun k hk => hk).tvr fun k hk e => ?_⟩
  subst e
  exact (hm x hx).1 hk
/-- A new row, whose header is not a block that something else speaks of. -/
theorem new_row {Γ nt a w g w'} (r : Rel Γ nt a w g) {h : Nat} (hu : Unm Γ h) {v : Value} {ty e n : Nat} {vs : List Value} {xs : List SV} (he : 0 < e) (hn : xs.length = n * e)
    (hg : w.grownBy w' none) (ho : w'.ownsRow 0 ty e v n vs) (hb : ∀ b, v.ownBlock = some b → w.heap.size ≤ b) (hx : All2 (SVR w g.o) vs xs) :
    Rel (up Γ (.row h) (.row ty e xs)) nt a w' (g.newRow h v) ∧ Fr w w' g.o (g.newRow h v).o ∧ XR w' (g.newRow h v) v (.p (.one (.sr h))) := by
  have hlt := ho.lt
  have hold : ∀ b, b < w.heap.size → w'.heap[b]? = w.heap[b]? := fun b hb => hg.block b hb (by simp)
  have ext : ∀ M : Nat → Prop, (∀ k, M k → k ≠ h) → Ext w w' g (g.newRow h v) none M := fun M hM =>
    ⟨hg.size, fun b hb' _ => ⟨hold b (r.tags b hb'), by
        have hne : v.ownBlock ≠ some b := fun e => by have := hb b e; have := r.tags b hb'; omega
        simp [Gh.newRow, hne]⟩,
      fun b hb' => by
        by_cases e : v.ownBlock = some b
        · exact (hlt b e).2
        · have := r.tags b (by simpa [Gh.newRow, e] using hb'); have := hg.size; omega,
      fun k hk => by simp [Gh.newRow, hM k hk], fun k _ => rfl⟩
  refine ⟨(r.ext (ext _ fun k hk e => hk (e ▸ hu))).upd ?_, ⟨hg.os, hg.tape, hg.output, hg.size, fun b hb' hoo => ⟨hold b hb', by
    have : v.ownBlock ≠ some b := fun e => by have := hb b e; omega
    simp [Gh.newRow, this]⟩, fun b hb' ⟨k, hk⟩ => by
    have : v.ownBlock ≠ some b := fun e => by have := hb b e; omega
    exact ⟨by simp [Gh.newRow, this, hk, Tag.nr], Shp.of_eq (hold b hb')⟩⟩, by simp [XR, PXR, TVR, Gh.newRow]⟩
  exact ⟨n, vs, he, hn, .inl ⟨by simpa [Gh.newRow] using ho, fun b hb' => by
    have : v.ownBlock = some b := by simpa [Gh.newRow] using hb'
    simp [Gh.newRow, this]⟩, hx.mono fun u x => (ext (fun _ => False) (by simp)).svr⟩
/-! ### contents as cells -/
def isRow : C → Bool
  | .row .. => true
  | _ => false
def cellOk (Γ : Nm → C) : TV → Bool
  | .dead => false
  | .sr h => isRow (Γ (.row h))
  | _ => true
def tvNm : TV → List Nm
  | .sr h => [.row h]
  | _ => []
theorem cell_one {Γ Δ nt a w g u} {x : TV} (r : Rel Δ nt a w g) (hr : ∀ n ∈ tvNm x, Δ n = Γ n) (hk : cellOk Γ x = true) (h : TVR w g u x) : u.oneCell' = true ∧ u.cells = #[u] := by
  have key : u.oneCell' = true := by
    cases x with
    | v x => exact SVR.oneCell h
    | sr k =>
      simp only [cellOk] at hk
      cases hc : Γ (.row k) with
      | row ty e xs =>
        obtain ⟨ad, n, cap, h1, _⟩ := (r.row (h := k) (by rw [hr _ (by simp [tvNm]), hc])).head
        have h' : u = g.hd k := h
        rw [h', h1]; rfl
      | _ => simp [hc, isRow] at hk
    | pr k off => have h' : u = _ := h; rw [h']; rfl
    | er k i => obtain ⟨b, n, c, _, h2⟩ := h; rw [h2]; rfl
    | cp xs k => obtain ⟨b, off, us, h1, _⟩ := h; rw [h1]; rfl
    | nl ty e => have h' : u = _ := h; rw [h']; rfl
    | nn e xs => exact SVR.oneCell h.1
    | cb f hs => have h' : u = _ := h; rw [h']; rfl
    | dead => simp [cellOk] at hk
  refine ⟨key, ?_⟩
  cases u <;> simp_all [Value.oneCell', Value.cells]
/-- The nil slice of a type that is known. -/
def nlAs (T : Tab) (t : Nat) : X → X
  | .p (.one (.nl 0 0)) => match T t with
    | some ⟨.slice el, _, _, _⟩ => match T el with | some ei => .p (.one (.nl el ei.size)) | none => .p (.one (.nl 0 0))
    | _ => .p (.one (.nl 0 0))
  | x => x
theorem nlAs_rel {T t w g u x} (h : XR w g u x) : XR w g u (nlAs T t x) := by
  unfold nlAs
  split
  · split
    · split <;> exact h
    · exact h
  · exact h
theorem nlAs_ment {T t x k} (h : (nlAs T t x).ment k) : x.ment k := by
  unfold nlAs at h
  split at h
  · split at h
    · split at h <;> exact h
    · exact h
  · exact h
/-- The cells of a content. -/
def cellsOf : X → List TV
  | .p (.one x) => [x]
  | .p (.agg xs) => xs
  | .tup _ => [.dead]
theorem cellsOf_ment {x : X} {y k} (hy : y ∈ cellsOf x) (h : y.ment k) : x.ment k := by
  cases x with
  | p p => cases p with
    | one z => simp [cellsOf] at hy; subst hy; exact h
    | agg xs => exact ⟨y, hy, h⟩
  | tup xs => simp [cellsOf] at hy; subst hy; exact absurd h (by simp [TV.ment])
theorem cellsOf_rel {Γ Δ nt a w g u x} (r : Rel Δ nt a w g) (hr : ∀ n ∈ (cellsOf x).flatMap tvNm, Δ n = Γ n) (hk : (cellsOf x).all (cellOk Γ) = true) (h : XR w g u x) :
    All2 (TVR w g) u.cells.toList (cellsOf x) ∧ (∀ v ∈ u.cells.toList, v.oneCell' = true) := by
  cases x with
  | tup xs => simp [cellsOf, cellOk] at hk
  | p p => cases p with
    | one z =>
      simp only [cellsOf, List.all_cons, List.all_nil, Bool.and_true] at hk
      obtain ⟨h1, h2⟩ := cell_one r (fun n hn => hr n (by simp [cellsOf, hn])) hk h
      rw [h2]
      exact ⟨All2.cons h All2.nil, by simpa using h1⟩
    | agg xs =>
      obtain ⟨cs, rfl, hall⟩ := h
      refine ⟨hall, fun v hv => ?_⟩
      obtain ⟨j, hj⟩ := List.mem_iff_getElem?.1 hv
      have hlt : j < xs.length := by rw [← hall.1]; exact (List.getElem?_eq_some_iff.1 hj).1
      have hx := hall.2 j v xs[j] hj (List.getElem?_eq_getElem hlt)
      have hmem : xs[j] ∈ xs := List.getElem_mem hlt
      exact (cell_one r (fun n hn => hr n (List.mem_flatMap.2 ⟨xs[j], hmem, hn⟩)) (List.all_eq_true.1 hk _ hmem) hx).1
/-! ### alloc, box -/
def zTV : ZC → TV
  | .raw v => .v (.raw v)
  | .nil ty e => .nl ty e
theorem zTV_rel {w g z} (h : z.ok = true) : TVR w g z.val (zTV z) := by
  cases z with
  | raw v => exact .raw v h
  | nil ty e => rfl
theorem all2_map {α β γ : Type} {R : α → β → Prop} {f : γ → α} {k : γ → β} {l : List γ} (h : ∀ z ∈ l, R (f z) (k z)) : All2 R (l.map f) (l.map k) := by
  induction l with
  | nil => exact .nil
  | cons z l ih => exact .cons (h z (by simp)) (ih fun z hz => h z (by simp [hz]))
def vAlloc (T : Tab) (i : Nat) (o : Oper) (t : Nat) (K : List Nm → List (Nm × C) → Prop) : Prop :=
  match T t with
  | some ti => K [] (putT o.dst (.p (.one (.pr (th i 0) 0))) ++ [(.box (th i 0), .box t (ti.zero.map zTV))])
  | none => False
theorem run_newVar {P : Program} (t : Nat) (v : Value) (w : World) : (newVar t v).run P w = .ok ⟨w.heap.size, 0, none⟩ (w.alloc (.cells v.cells t)) := by
  rfl
theorem vAlloc_ok {P T Γ nt i o t K} (hT : Tok P T) (hd : dOk nt o) (ho : o.op = .alloc t) (h : vAlloc T i o t K) : Good P nt i o Γ K := by
  unfold vAlloc at h
  split at h
  · rename_i ti ht
    refine ⟨_, _, ?_, h⟩
    intro Δ a w g Q K' hr hu r hk
    obtain ⟨z, hz, hzc⟩ := (hT t ti ht).run_zero w
    have hzok := (hT t ti ht).zok
    have hrun : (execOp a.eval o).run P w = .ok (.value (.pointer (some ⟨w.heap.size, 0, none⟩))) (w.alloc (.cells z.cells t)) := by
      simp only [execOp, ho]
      refine run_v ?_
      unfold Instr.alloc
      rw [run_bind_ok hz]
      simp only []
      rw [run_bind_ok (run_newVar t z w)]
      rfl
    obtain ⟨r1, f1, x1⟩ := new_box r (hu (th i 0) (isTh_th (by omega))) z.cells t (ti.zero.map zTV) (fun x hx => by
      obtain ⟨c, _, rfl⟩ := List.mem_map.1 hx
      cases c <;> simp [zTV, TV.ment]) (by rw [hzc]; exact all2_map fun c hc => zTV_rel (List.all_eq_true.1 hzok c hc))
    exact wp_value hrun (hk _ _ _ (rel_putT' (Γ := Δ) hd (wr := [(.box (th i 0), _)]) r1 x1) f1)
  · exact h.elim
def vBox (T : Tab) (Γ : Nm → C) (i : Nat) (o : Oper) (t : Nat) (x : Operand) (K : List Nm → List (Nm × C) → Prop) : Prop :=
  let y := nlAs T t (opX Γ x)
  (cellsOf y).all (cellOk Γ) = true ∧ K (opR x ++ (cellsOf y).flatMap tvNm) (putT o.dst (.p (.one (.pr (th i 0) 0))) ++ [(.box (th i 0), .box t (cellsOf y))])
theorem vBox_ok {P T Γ nt i o t x K} (hd : dOk nt o) (ho : o.op = .box t x) (h : vBox T Γ i o t x K) : Good P nt i o Γ K := by
  unfold vBox at h
  obtain ⟨hok, h⟩ := h
  refine ⟨_, _, ?_, h⟩
  intro Δ a w g Q K' hr hu r hk
  have hx := opX_rel r x
  have hc := opX_congr (Γ := Γ) (Δ := Δ) (x := x) fun n hn => hr n (by simp [hn])
  have hun := opX_unm (hu (th i 0) (isTh_th (by omega))) x
  rw [hc] at hx hun
  have hx' := nlAs_rel (T := T) (t := t) hx
  obtain ⟨hall, _⟩ := cellsOf_rel (Γ := Γ) r (fun n hn => hr n (List.mem_append_right _ hn)) hok hx'
  have hrun : (execOp a.eval o).run P w = .ok (.value (.pointer (some ⟨w.heap.size, 0, none⟩))) (w.alloc (.cells (a.eval x).cells t)) := by
    simp only [execOp, ho]
    refine run_v ?_
    unfold Instr.box
    rw [run_bind_ok (run_newVar t _ w)]
    rfl
  obtain ⟨r1, f1, x1⟩ := new_box r (hu (th i 0) (isTh_th (by omega))) _ t _ (fun y hy => ⟨fun hm => hun (nlAs_ment (cellsOf_ment hy hm)), fun _ _ => .inr trivial⟩) hall
  exact wp_value hrun (hk _ _ _ (rel_putT' (Γ := Δ) hd (wr := [(.box (th i 0), _)]) r1 x1) f1)
/-! ### stores -/
def putAt {α : Type} (xs : List α) (k : Nat) (ys : List α) : List α := xs.take k ++ ys ++ xs.drop (k + ys.length)
theorem All2.putAt {α β : Type} {R : α → β → Prop} {us : List α} {xs : List β} (h : All2 R us xs) (k : Nat) {vs ys} (h' : All2 R vs ys) : All2 R (putAt us k vs) (putAt xs k ys) := by
  unfold Go.Proofs.YtdpflafjfkooeaaGreatDoorG.putAt
  rw [h'.1]
  exact ((h.take k).append h').append (h.drop _)
def svs : List TV → Option (List SV)
  | [] => some []
  | .v x :: r => (svs r).map (x :: ·)
  | _ :: _ => none
theorem svs_rel {w g us xs ys} (h : svs xs = some ys) (r : All2 (TVR w g) us xs) : All2 (SVR w g.o) us ys := by
  induction xs generalizing us ys with
  | nil => simp [svs] at h; subst h; cases us with
    | nil => exact .nil
    | cons u us => have := r.1; simp at this
  | cons x xs ih =>
    cases us with
    | nil => have := r.1; simp at this
    | cons u us =>
      cases x <;> simp [svs] at h
      obtain ⟨zs, hz, rfl⟩ := h
      exact .cons r.head (ih hz r.tail)
def vStore (T : Tab) (Γ : Nm → C) (o : Oper) (t : Nat) (p x : Operand) (K : List Nm → List (Nm × C) → Prop) : Prop :=
  let y := nlAs T t (opX Γ x)
  o.dst = none ∧ (cellsOf y).all (cellOk Γ) = true ∧ match T t, opX Γ p with
  | some ti, .p (.one (.pr h k)) => match Γ (.box h) with
    | .box ty xs => (cellsOf y).length = ti.size ∧ k + ti.size ≤ xs.length ∧ K (opR p ++ opR x ++ (cellsOf y).flatMap tvNm ++ [.box h]) [(.box h, .box ty (putAt xs k (cellsOf y)))]
    | _ => False
  | some ti, .p (.one (.er h k)) => match Γ (.row h), svs (cellsOf y) with
    | .row ty e xs, some ys => 0 < ti.size ∧ (cellsOf y).length = ti.size ∧ k + ti.size ≤ xs.length ∧ K (opR p ++ opR x ++ (cellsOf y).flatMap tvNm ++ [.row h]) [(.row h, .row ty e (putAt xs k ys))]
    | _, _ => False
  | _, _ => False
theorem run_storeVar {P t i} (h : TIok P t i) {w : World} {b k : Nat} {cur : Array Value} {ty : Nat} {v : Value} (hb : w.heap[b]? = some (.cells cur ty (0, 0))) (hn : v.cells.size = i.size) (hk : k + i.size ≤ cur.size)
    (h1 : ∀ u ∈ v.cells.toList, u.oneCell' = true) : (storeVar t ⟨b, k, none⟩ v).run P w = .ok () (w.setRow b (putAt cur.toList k v.cells.toList).toArray) := by
  unfold storeVar
  rw [run_bind_ok (h.run_size w)]
  rw [if_neg (by simpa using hn)]
  have := run_storeCells_at P b k ty v.cells.toList 0 cur w hb (by simp; omega) h1
  simp only [Nat.add_zero] at this
  exact this
theorem svs_length {xs ys} (h : svs xs = some ys) : ys.length = xs.length := by
  induction xs generalizing ys with
  | nil => simp [svs] at h; subst h; rfl
  | cons x xs ih => cases x <;> simp [svs] at h; obtain ⟨zs, hz, rfl⟩ := h; simp [ih hz]
theorem putAt_length {α : Type} {xs : List α} {k ys} (h : k + ys.length ≤ xs.length) : (putAt xs k ys).length = xs.length := by
  simp [putAt]; omega
theorem putAt_take {α : Type} {xs : List α} {k n : Nat} {ys} (h : k + ys.length ≤ n) (hn : n ≤ xs.length) : (putAt xs k ys).take n = putAt (xs.take n) k ys := by
  unfold putAt
  rw [List.take_append, List.take_append, List.take_of_length_le (l := xs.take k) (by simp; omega), List.take_of_length_le (l := ys) (by simp; omega), List.take_take, Nat.min_eq_left (by omega), List.drop_take]
  simp
  omega
theorem vStore_ok {P T Γ nt i o t p x K} (hT : Tok P T) (ho : o.op = .store t p x) (h : vStore T Γ o t p x K) : Good P nt i o Γ K := by
  unfold vStore at h
  obtain ⟨hnd, hok, h⟩ := h
  split at h
  · rename_i ti hh k htt hp
    split at h
    · rename_i ty xs hbox
      obtain ⟨hl, hk, h⟩ := h
      refine ⟨_, _, ?_, h⟩
      intro Δ a w g Q K' hr hu r hK
      have hx := opX_rel r x
      rw [opX_congr (Γ := Γ) fun n hn => hr n (by simp [hn])] at hx
      have hpx := opX_rel r p
      rw [opX_congr (Γ := Γ) fun n hn => hr n (by simp [hn]), hp] at hpx
      obtain ⟨hall, h1⟩ := cellsOf_rel (Γ := Γ) r (fun n hn => hr n (by simp only [List.mem_append]; exact .inl (.inr hn))) hok (nlAs_rel (T := T) (t := t) hx)
      obtain ⟨cur, hb1, hb2, hb3⟩ := r.box (h := hh) (by rw [hr _ (by simp), hbox])
      have hpv : a.eval p = .pointer (some ⟨g.bk hh, k, none⟩) := hpx
      have hcs : cur.size = xs.length := by have := hb3.1; simpa using this
      have hvs : (a.eval x).cells.size = ti.size := by rw [← hl, ← hall.1]; simp
      have hrun : (execOp a.eval o).run P w = .ok .skip (w.setRow (g.bk hh) (putAt cur.toList k (a.eval x).cells.toList).toArray) := by
        simp only [execOp, ho, hpv]
        refine run_u ?_
        simp only [Instr.storeAt, Instr.sureAddr]
        rw [run_bind_ok (a := (⟨g.bk hh, k, none⟩ : Addr)) (w' := w) rfl]
        exact run_storeVar (hT t ti htt) hb1 hvs (by omega) h1
      have ext : Ext w (w.setRow (g.bk hh) (putAt cur.toList k (a.eval x).cells.toList).toArray) g g (some (.box hh)) fun k => ¬ Unm Δ k :=
        ⟨by simp, fun b hb hn => ⟨setRow_other w _ b _ fun e => hn _ rfl (by rw [e]; exact hb2), rfl⟩, fun b hb => by have := r.tags b hb; simpa using this, fun _ _ => rfl, fun _ _ => rfl⟩
      have hshp : ∀ b, Shp w (w.setRow (g.bk hh) (putAt cur.toList k (a.eval x).cells.toList).toArray) b := fun b => by
        by_cases e : b = g.bk hh
        · subst e
          intro c1 t1 f1 hc1
          rw [hb1] at hc1
          cases hc1
          refine ⟨_, setRow_heap w _ cur _ ty _ hb1, ?_⟩
          have hvs' : (a.eval x).cells.toList.length = ti.size := by simpa using hvs
          simp only [List.size_toArray]
          rw [putAt_length (by simp; omega)]; simp
        · exact Shp.of_eq (setRow_other w _ b _ e)
      refine wp_skip' hrun (hK _ _ g ?_ ⟨rfl, rfl, rfl, by simp, fun b hb ho' => ⟨setRow_other w _ b _ fun e => ?_, rfl⟩, fun b hb ⟨k, hk⟩ => ⟨by rw [hk]; rfl, hshp b⟩⟩)
      · rw [hnd]
        refine r.extUp ext ⟨_, setRow_heap w _ cur _ ty _ hb1, hb2, ?_⟩
        have e2 : All2 (TVR (w.setRow (g.bk hh) (putAt cur.toList k (a.eval x).cells.toList).toArray) g) (putAt cur.toList k (a.eval x).cells.toList) (putAt xs k (cellsOf (nlAs T t (opX Γ x)))) :=
          (hb3.putAt k hall).mono fun u y hy => by
            have e3 : Ext w (w.setRow (g.bk hh) (putAt cur.toList k (a.eval x).cells.toList).toArray) g g (some (.box hh)) fun _ => True := ⟨ext.size, ext.blk, ext.new, fun _ _ => rfl, fun _ _ => rfl⟩
            exact e3.tvr (fun _ _ => trivial) hy
        simpa using e2
      · rw [e, hb2] at ho'; simp at ho'
    · exact h.elim
  · rename_i ti hh k htt hp
    split at h
    · rename_i ty e xs ys hrow hys
      obtain ⟨hsz0, hl, hk, h⟩ := h
      refine ⟨_, _, ?_, h⟩
      intro Δ a w g Q K' hr hu r hK
      have hx := opX_rel r x
      rw [opX_congr (Γ := Γ) fun n hn => hr n (by simp [hn])] at hx
      have hpx := opX_rel r p
      rw [opX_congr (Γ := Γ) fun n hn => hr n (by simp [hn]), hp] at hpx
      obtain ⟨hall, h1⟩ := cellsOf_rel (Γ := Γ) r (fun n hn => hr n (by simp only [List.mem_append]; exact .inl (.inr hn))) hok (nlAs_rel (T := T) (t := t) hx)
      obtain ⟨n, vs, he, hn, hown', hall2⟩ := r.row (h := hh) (by rw [hr _ (by simp), hrow])
      obtain ⟨hown, htag⟩ : w.ownsRow 0 ty e (g.hd hh) n vs ∧ ∀ b, (g.hd hh).ownBlock = some b → g.o b = .row hh := by
        rcases hown' with hq | ⟨q1, q2, _⟩
        · exact hq
        · subst q1; simp at hn; subst hn; simp at hk; omega
      obtain ⟨b, n', cap, hhd, hpv⟩ : ∃ b n cap, g.hd hh = .slice (some ⟨b, 0, none⟩) n cap ∧ a.eval p = .pointer (some ⟨b, k, none⟩) := hpx
      rcases hown.2 with ⟨h0, _⟩ | ⟨b', cap', cur, h0, _, hb1, hnc, hcm, hcur, htake⟩
      · rw [hhd] at h0; simp at h0
      · rw [hhd] at h0
        simp only [Value.slice.injEq, Option.some.injEq, Addr.mk.injEq, and_true] at h0
        obtain ⟨rfl, rfl, rfl⟩ := h0
        have hvl : vs.length = n' * e := hown.1
        have hys' := svs_length hys
        have htagb : g.o b = .row hh := htag b (by rw [hhd]; rfl)
        have hvs : (a.eval x).cells.size = ti.size := by rw [← hl, ← hall.1]; simp
        have hle : n' * e ≤ cur.size := by rw [hcur]; exact Nat.mul_le_mul_right _ hnc
        have hrun : (execOp a.eval o).run P w = .ok .skip (w.setRow b (putAt cur.toList k (a.eval x).cells.toList).toArray) := by
          simp only [execOp, ho, hpv]
          refine run_u ?_
          simp only [Instr.storeAt, Instr.sureAddr]
          rw [run_bind_ok (a := (⟨b, k, none⟩ : Addr)) (w' := w) rfl]
          exact run_storeVar (hT t ti htt) hb1 hvs (by omega) h1
        have ext : Ext w (w.setRow b (putAt cur.toList k (a.eval x).cells.toList).toArray) g g (some (.row hh)) fun _ => True :=
          ⟨by simp, fun b' hb' hn => ⟨setRow_other w _ b' _ fun e => hn _ rfl (by rw [e]; exact htagb), rfl⟩, fun b hb => by have := r.tags b hb; simpa using this, fun _ _ => rfl, fun _ _ => rfl⟩
        have ext' : Ext w (w.setRow b (putAt cur.toList k (a.eval x).cells.toList).toArray) g g (some (.row hh)) fun k => ¬ Unm Δ k := ⟨ext.size, ext.blk, ext.new, fun _ _ => rfl, fun _ _ => rfl⟩
        refine wp_skip' hrun (hK _ _ g ?_ ⟨rfl, rfl, rfl, by simp, fun b' hb' ho' => ⟨setRow_other w _ b' _ fun e => ?_, rfl⟩, fun b' hb' ⟨k, hk⟩ => ⟨by rw [hk]; rfl, Shp.of_eq (setRow_other w _ b' _ fun e => by rw [e, htagb] at hk; cases hk)⟩⟩)
        · rw [hnd]
          have hvc : (a.eval x).cells.toList.length = ti.size := by simpa using hvs
          refine r.extUp ext' ⟨n', putAt vs k (a.eval x).cells.toList, he, by rw [putAt_length (by omega)]; exact hn, .inl ⟨⟨by rw [putAt_length (by omega)]; exact hvl, .inr ⟨b, cap, _, hhd, Nat.zero_le _, setRow_heap w _ cur _ ty _ hb1, hnc, hcm, ?_, ?_⟩⟩, htag⟩, ?_⟩
          · simp only [List.size_toArray]; rw [putAt_length (by simp; omega)]; simpa using hcur
          · simp only [List.toList_toArray]
            rw [putAt_take (by omega) (by simp; omega), htake]
          · exact (hall2.putAt k (svs_rel hys hall)).mono fun u y => ext.svr
        · rw [e, htagb] at ho'; simp at ho'
    · exact h.elim
  · exact h.elim
end Go.Proofs.YtdpflafjfkooeaaGreatDoorG
/- G6: structs and slices that are written out; freezing; make; append; cuts of own rows. -/
namespace Go.Proofs.YtdpflafjfkooeaaGreatDoorG
open Go Go.RowKit
set_option linter.unusedVariables false
set_option linter.unusedSimpArgs false
theorem putAt_get {α : Type} (xs ys : List α) (k j : Nat) (h : k + ys.length ≤ xs.length) : (putAt xs k ys)[j]? = if k ≤ j ∧ j < k + ys.length then ys[j - k]? else xs[j]? := by
  unfold putAt
  by_cases h1 : j < k
  · rw [if_neg (by omega), List.append_assoc, List.getElem?_append_left (by simp; omega), List.getElem?_take, if_pos h1]
  · by_cases h2 : j < k + ys.length
    · rw [if_pos ⟨by omega, h2⟩, List.append_assoc, List.getElem?_append_right (by simp; omega), List.getElem?_append_left (by simp; omega)]
      congr 1; simp; omega
    · rw [if_neg (by omega), List.getElem?_append_right (by simp; omega), List.getElem?_drop]
      congr 1; simp; omega
theorem foldl_set (off : Nat) : ∀ (vs : List Value) (k : Nat) (cells : Array Value), off + k + vs.length ≤ cells.size →
    ((vs.zipIdx k).foldl (fun cs p => cs.setIfInBounds (off + p.2) p.1) cells).toList = putAt cells.toList (off + k) vs
  | [], k, cells, h => by simp [putAt]
  | v :: vs, k, cells, h => by
    simp only [List.zipIdx_cons, List.foldl_cons, List.length_cons] at h ⊢
    rw [foldl_set off vs (k + 1) _ (by simp; omega)]
    apply List.ext_getElem?
    intro j
    rw [putAt_get _ _ _ _ (by simp; omega), putAt_get _ _ _ _ (by simp; omega)]
    simp only [List.length_cons, Array.getElem?_toList, Array.getElem?_setIfInBounds]
    by_cases h1 : j = off + k
    · subst h1
      rw [if_neg (by omega), if_pos (by omega)]
      simp
      omega
    · by_cases h2 : off + k ≤ j ∧ j < off + k + (vs.length + 1)
      · rw [if_pos (by omega), if_pos h2]
        obtain ⟨m, hm⟩ : ∃ m, j - (off + k) = m + 1 := ⟨j - (off + k) - 1, by omega⟩
        rw [hm, List.getElem?_cons_succ]
        congr 1; omega
      · rw [if_neg (by omega), if_neg h2, if_neg (Ne.symm h1)]
def fillG {α : Type} (place : Nat → Option (Nat × Nat)) (xs : List α) : List (Nat × List α) → Option (List α)
  | [] => some xs
  | (i, ys) :: rest => match place i with
    | none => none
    | some (off, size) => if ys.length = size ∧ off + ys.length ≤ xs.length then fillG place (putAt xs off ys) rest else none
theorem fill_rel {α : Type} {R : Value → α → Prop} (place : Nat → Option (Nat × Nat)) : ∀ (ps : List (Nat × List α)) (parts : List (Nat × Value)) (cells : Array Value) (xs xs' : List α), All2 R cells.toList xs →
    All2 (fun (p : Nat × Value) (q : Nat × List α) => p.1 = q.1 ∧ All2 R p.2.cells.toList q.2) parts ps → fillG place xs ps = some xs' → ∃ cells', Instr.fill place cells parts = some cells' ∧ All2 R cells'.toList xs'
  | [], parts, cells, xs, xs', hc, hp, h => by
    cases parts with
    | nil => simp [fillG] at h; subst h; exact ⟨cells, rfl, hc⟩
    | cons p parts => have := hp.1; simp at this
  | (i, ys) :: rest, parts, cells, xs, xs', hc, hp, h => by
    cases parts with
    | nil => have := hp.1; simp at this
    | cons p parts =>
      obtain ⟨i', v⟩ := p
      obtain ⟨rfl, hv⟩ := hp.head
      simp only [fillG] at h
      cases hpl : place i' with
      | none => simp [hpl] at h
      | some q =>
        obtain ⟨off, size⟩ := q
        simp only [hpl] at h
        split at h
        · rename_i hlen
          have h1 : v.cells.size = ys.length := by have := hv.1; simpa using this
          have h2 : cells.size = xs.length := by have := hc.1; simpa using this
          simp only [Instr.fill, hpl]
          rw [if_neg (by simp; omega)]
          have e := foldl_set off v.cells.toList 0 cells (by simp; omega)
          have e' : (v.cells.zipIdx.foldl (fun cs (p : Value × Nat) => cs.setIfInBounds (off + p.2) p.1) cells).toList = putAt cells.toList off v.cells.toList := by
            rw [Nat.add_zero] at e
            rw [← e, ← Array.foldl_toList]
            simp
          refine fill_rel place rest parts _ _ _ ?_ hp.tail h
          rw [e']
          exact hc.putAt off hv
        · cases h
/-- A new home for a nil slice. -/
theorem Rel.nilHome {Γ nt a w g} (r : Rel Γ nt a w g) {k ty e} (hu : Unm Γ k) (he : 0 < e) : Rel (up Γ (.row k) (.row ty e [])) nt a w { g with hd := fun k' => if k' = k then .slice none 0 0 else g.hd k' } := by
  have ext : Ext w w g { g with hd := fun k' => if k' = k then .slice none 0 0 else g.hd k' } none fun k => ¬ Unm Γ k :=
    ⟨Nat.le_refl _, fun _ _ _ => ⟨rfl, rfl⟩, fun b hb => r.tags b hb, fun k' hk => by
      have : k' ≠ k := fun e => hk (e ▸ hu)
      simp [this], fun _ _ => rfl⟩
  refine (r.ext ext).upd ⟨0, [], he, by simp, .inl ⟨?_, fun b hb => ?_⟩, .nil⟩
  · simp only [if_true]; exact World.ownsRow_nil w 0 ty e
  · simp [Value.ownBlock] at hb
theorem Rel.nilHome' {Γ nt a w g} (r : Rel Γ nt a w g) {k ty e} (hu : Unm Γ k) (he : 0 < e) : Rel (up Γ (.row k) (.row ty e [])) nt a w { g with hd := fun k' => if k' = k then .slice none 0 0 else g.hd k' } := r.nilHome hu he
/-! ### freezing: rows that are never written again -/
def Gh.frz (g : Gh) (hs : List Nat) : Gh := { o := fun b => match g.o b with | .row h => if h ∈ hs then .imm else .row h | t => t, hd := g.hd, bk := g.bk }
theorem frz_imm {g : Gh} {hs b} (h : g.o b = .imm) : (g.frz hs).o b = .imm := by simp [Gh.frz, h]
theorem frz_other {g : Gh} {hs b} : (g.frz hs).o b = .other ↔ g.o b = .other := by
  simp only [Gh.frz]
  cases h : g.o b with
  | row k => simp only []; split <;> simp
  | _ => simp
theorem frz_svr {w : World} {g : Gh} {hs : List Nat} {v : Value} {x : SV} (r : SVR w g.o v x) : SVR w (g.frz hs).o v x := r.mono fun b hb => ⟨frz_imm hb, rfl⟩
theorem frz_tvr {w : World} {g : Gh} {hs : List Nat} {v : Value} {x : TV} (r : TVR w g v x) : TVR w (g.frz hs) v x := by
  cases x with
  | v x => exact frz_svr r
  | cp xs k => obtain ⟨b, off, us, h1, h2, h3, h4, h5⟩ := r; exact ⟨b, off, us, h1, frz_imm h2, h3, h4, fun j u x a b => frz_svr (h5 j u x a b)⟩
  | nn e xs => exact ⟨frz_svr r.1, r.2⟩
  | _ => exact r
theorem frz_pxr {w : World} {g : Gh} {hs : List Nat} {v : Value} {x : PX} (r : PXR w g v x) : PXR w (g.frz hs) v x := by
  cases x with
  | one x => exact frz_tvr r
  | agg xs => obtain ⟨cs, h1, h2⟩ := r; exact ⟨cs, h1, h2.mono fun _ _ => frz_tvr⟩
theorem frz_xr {w : World} {g : Gh} {hs : List Nat} {v : Value} {x : X} (r : XR w g v x) : XR w (g.frz hs) v x := by
  cases x with
  | p x => exact frz_pxr r
  | tup xs => obtain ⟨cs, h1, h2⟩ := r; exact ⟨cs, h1, h2.mono fun _ _ => frz_pxr⟩
def frzW (hs : List Nat) : List (Nm × C) := hs.map fun h => (.row h, .none)
theorem ups_frzW {Γ : Nm → C} {hs : List Nat} {n : Nm} : ups Γ (frzW hs) n = if (∃ h ∈ hs, n = .row h) then .none else Γ n := by
  induction hs with
  | nil => simp [frzW, ups]
  | cons h hs ih =>
    simp only [frzW, List.map_cons, ups] at ih ⊢
    by_cases e : n = .row h
    · subst e; simp
    · rw [up_ne e, ih]
      simp [e]
theorem Rel.frz {Γ nt a w g} (r : Rel Γ nt a w g) (hs : List Nat) : Rel (ups Γ (frzW hs)) nt a w (g.frz hs) := by
  refine ⟨r.size, r.df, fun b hb => r.tags b fun e => hb (frz_other.2 e), r.gl.keep fun q => ⟨rfl, by simp [Gh.frz, q]⟩, fun n => ?_⟩
  rw [ups_frzW]
  split
  · cases n <;> trivial
  · rename_i hn
    have hc := r.cr n
    cases n with
    | t i => cases hg : Γ (.t i) <;> rw [hg] at hc <;> first | trivial | exact frz_xr hc
    | row k =>
      cases hg : Γ (.row k) <;> rw [hg] at hc <;> first | trivial | skip
      obtain ⟨m, vs, h1, h2, h3, h4⟩ := hc
      refine ⟨m, vs, h1, h2, h3.imp (fun q => ⟨q.1, fun b hb => ?_⟩) id, h4.mono fun _ _ => frz_svr⟩
      have : k ∉ hs := fun hk => hn ⟨k, hk, rfl⟩
      simp [Gh.frz, q.2 b hb, this]
    | box k =>
      cases hg : Γ (.box k) <;> rw [hg] at hc <;> first | trivial | skip
      obtain ⟨cur, h1, h2, h3⟩ := hc
      exact ⟨cur, h1, by simp [Gh.frz, h2], h3.mono fun _ _ => frz_tvr⟩
theorem Fr.frz (w : World) (g : Gh) (hs : List Nat) : Fr w w g.o (g.frz hs).o :=
  ⟨rfl, rfl, rfl, Nat.le_refl _, fun b hb ho => ⟨rfl, by rcases ho with ho | ho <;> simp [Gh.frz, ho]⟩, fun b hb ⟨k, hk⟩ => ⟨by simp [Gh.frz, hk, Tag.nr], Shp.refl w b⟩⟩
/-- A row as a value, once its block does not change. -/
theorem RowR.frz {w g h ty e xs hs} (r : RowR w g h ty e xs) (hh : h ∈ hs) : SVR w (g.frz hs).o (g.hd h) (.sl e xs) := by
  obtain ⟨ad, n, cap, h1, h2, h3, h4, h5, h6⟩ := r.head
  obtain ⟨m, vs, he, hn, ho', hall⟩ := r
  rw [h1]
  by_cases hz : n = 0
  · subst hz
    have hxs : xs = [] := List.eq_nil_of_length_eq_zero (by simpa using h4)
    rw [hxs]
    exact .nil _ _ _ fun ha => (h5 ha).2
  · cases ad with
    | none =>
      have hxs := (h5 rfl).1
      rw [hxs] at h4
      have : 0 < n * e := Nat.mul_pos (by omega) he
      simp at h4
      omega
    | some b =>
      have hne : xs ≠ [] := fun hxs => by
        rw [hxs] at h4
        have : 0 < n * e := Nat.mul_pos (by omega) he
        simp at h4
        omega
      obtain ⟨ho, htag⟩ : w.ownsRow 0 ty e (g.hd h) m vs ∧ ∀ b, (g.hd h).ownBlock = some b → g.o b = .row h := by
        rcases ho' with hq | ⟨q1, _⟩
        · exact hq
        · subst q1; exact absurd (List.eq_nil_of_length_eq_zero (by simpa using hn)) hne
      obtain ⟨k, rfl⟩ := h6 hne b rfl
      have ht := htag k (by rw [h1]; rfl)
      have hc := ho.cells (g := k) (by rw [h1]; rfl)
      refine .sl k 0 n cap e xs vs (by simp [Gh.frz, ht, hh]) he (by omega) h4 h3 hall.1 (fun j u hj => ?_) fun j u x a b => frz_svr (hall.2 j u x a b)
      have := hc j u hj
      rwa [Addr.add_lit] at this
/-- A content as a value that does not change; the rows that are frozen for it. -/
def frzT (Γ : Nm → C) : TV → Option (SV × List Nat)
  | .v x => some (x, [])
  | .nn e xs => some (.sl e xs, [])
  | .nl _ e => some (.sl e [], [])
  | .sr h => match Γ (.row h) with | .row _ e xs => some (.sl e xs, [h]) | _ => none
  | .cp xs k => some (.pt xs k, [])
  | _ => none
theorem frzT_rel {Γ Δ nt a w g u x s hs0 hs} (r : Rel Δ nt a w g) (h : frzT Γ x = some (s, hs0)) (hr : ∀ k ∈ hs0, Δ (.row k) = Γ (.row k)) (hsub : ∀ k ∈ hs0, k ∈ hs) (hx : TVR w g u x) : SVR w (g.frz hs).o u s := by
  unfold frzT at h
  split at h
  · cases h; exact frz_svr hx
  · cases h; exact frz_svr hx.1
  · cases h; have hx' : u = _ := hx; rw [hx']; exact .nil _ _ _ fun _ => rfl
  · rename_i k
    split at h
    · rename_i ty e xs hrow
      cases h
      have hx' : u = g.hd k := hx
      rw [hx']
      exact (r.row (by rw [hr k (by simp), hrow])).frz (hsub k (by simp))
    · cases h
  · cases h; exact frz_svr (CPR.svr hx)
  · cases h
def frzL (Γ : Nm → C) : List TV → Option (List SV × List Nat)
  | [] => some ([], [])
  | x :: r => match frzT Γ x, frzL Γ r with
    | some (s, h1), some (ss, h2) => some (s :: ss, h1 ++ h2)
    | _, _ => none
theorem frzL_rel {Γ Δ nt a w g} (r : Rel Δ nt a w g) {hs} : ∀ {us xs ss hs0}, frzL Γ xs = some (ss, hs0) → (∀ k ∈ hs0, Δ (.row k) = Γ (.row k)) → (∀ k ∈ hs0, k ∈ hs) → All2 (TVR w g) us xs → All2 (SVR w (g.frz hs).o) us ss := by
  intro us xs
  induction xs generalizing us with
  | nil =>
    intro ss hs0 h hr hsub ha
    simp [frzL] at h
    obtain ⟨rfl, rfl⟩ := h
    cases us with
    | nil => exact .nil
    | cons u us => have := ha.1; simp at this
  | cons x xs ih =>
    intro ss hs0 h hr hsub ha
    cases us with
    | nil => have := ha.1; simp at this
    | cons u us =>
      simp only [frzL] at h
      split at h
      · rename_i s h1 ss' h2 e1 e2
        cases h
        exact .cons (frzT_rel r e1 (fun k hk => hr k (by simp [hk])) (fun k hk => hsub k (by simp [hk])) ha.head) (ih e2 (fun k hk => hr k (by simp [hk])) (fun k hk => hsub k (by simp [hk])) ha.tail)
      · cases h
end Go.Proofs.YtdpflafjfkooeaaGreatDoorG
/- G7: build, make, append, cuts of own rows. -/
namespace Go.Proofs.YtdpflafjfkooeaaGreatDoorG
open Go Go.RowKit
set_option linter.unusedVariables false
set_option linter.unusedSimpArgs false
/-! ### struct and array values -/
/-- The parts' cells. -/
def partsT (T : Tab) (Γ : Nm → C) (ty : Nat → Nat) (parts : List (Nat × Operand)) : List (Nat × List TV) := parts.map fun p => (p.1, cellsOf (nlAs T (ty p.1) (opX Γ p.2)))
def partsR (parts : List (Nat × Operand)) : List Nm := parts.flatMap fun p => opR p.2
theorem partsT_rel {T Γ Δ nt a w g ty} {parts : List (Nat × Operand)} (r : Rel Δ nt a w g) (hr : ∀ n ∈ partsR parts, Δ n = Γ n) (hr2 : ∀ n ∈ (partsT T Γ ty parts).flatMap fun p => p.2.flatMap tvNm, Δ n = Γ n)
    (hk : (partsT T Γ ty parts).all (fun p => p.2.all (cellOk Γ)) = true) :
    All2 (fun (p : Nat × Value) (q : Nat × List TV) => p.1 = q.1 ∧ All2 (TVR w g) p.2.cells.toList q.2) (parts.map fun p => (p.1, a.eval p.2)) (partsT T Γ ty parts) := by
  induction parts with
  | nil => exact .nil
  | cons p ps ih =>
    simp only [partsT, List.map_cons, List.all_cons, Bool.and_eq_true, List.flatMap_cons] at hk hr2 ⊢
    have hx := opX_rel r p.2
    rw [opX_congr (Γ := Γ) fun n hn => hr n (by simp [partsR, hn])] at hx
    refine .cons ⟨rfl, (cellsOf_rel (Γ := Γ) r (fun n hn => hr2 n (List.mem_append_left _ hn)) hk.1 (nlAs_rel hx)).1⟩ (ih (fun n hn => hr n ?_) (fun n hn => hr2 n (List.mem_append_right _ hn)) hk.2)
    simp only [partsR, List.flatMap_cons, List.mem_append]
    exact .inr hn
def placesT (T : Tab) : List (Nat × Nat) → Option (List (Nat × Nat))
  | [] => some []
  | (ft, off) :: r => match T ft, placesT T r with
    | some i, some l => some ((off, i.size) :: l)
    | _, _ => none
theorem placesT_ok {P T} (hT : Tok P T) : ∀ {fs : List Go.Field} {l}, placesT T (fs.map fun f => (f.type, f.offset)) = some l → fs.mapM (fun f => (P.info? f.type).map fun i => (f.offset, i.size)) = some l
  | [], l, h => by simp [placesT] at h; subst h; rfl
  | f :: fs, l, h => by
    simp only [List.map_cons, placesT] at h
    split at h
    · rename_i i l' hi hl
      cases h
      obtain ⟨j, z, hj, hs, _⟩ := (hT _ _ hi).info'
      simp [List.mapM_cons, hj, placesT_ok hT hl, hs]
    · cases h
def fty (fs : List (Nat × Nat)) (i : Nat) : Nat := (fs.getD i (0, 0)).1
def vBuild (T : Tab) (Γ : Nm → C) (o : Oper) (t : Nat) (parts : List (Nat × Operand)) (K : List Nm → List (Nm × C) → Prop) : Prop :=
  match T t with
  | some ⟨.struct fs, _, _, ze⟩ => match placesT T fs with
    | some l => (partsT T Γ (fty fs) parts).all (fun p => p.2.all (cellOk Γ)) = true ∧ match fillG (fun i => l[i]?) (ze.map zTV) (partsT T Γ (fty fs) parts) with
      | some xs => K (partsR parts ++ (partsT T Γ (fty fs) parts).flatMap fun p => p.2.flatMap tvNm) (putT o.dst (.p (.agg xs)))
      | none => False
    | none => False
  | some ⟨.arr _ e, _, _, ze⟩ => match T e with
    | some ei => (partsT T Γ (fun _ => e) parts).all (fun p => p.2.all (cellOk Γ)) = true ∧ match fillG (fun i => some (i * ei.size, ei.size)) (ze.map zTV) (partsT T Γ (fun _ => e) parts) with
      | some xs => K (partsR parts ++ (partsT T Γ (fun _ => e) parts).flatMap fun p => p.2.flatMap tvNm) (putT o.dst (.p (.agg xs)))
      | none => False
    | none => False
  | _ => False
theorem zero_rel {w g} {z : Value} {zs : List ZC} (h : z.cells.toList = zs.map ZC.val) (hk : zs.all ZC.ok = true) : All2 (TVR w g) z.cells.toList (zs.map zTV) := by
  rw [h]; exact all2_map fun c hc => zTV_rel (List.all_eq_true.1 hk c hc)
theorem vBuild_ok {P T Γ nt i o t K} {parts : Array (Nat × Operand)} (hT : Tok P T) (hd : dOk nt o) (ho : o.op = .build t parts) (h : vBuild T Γ o t parts.toList K) : Good P nt i o Γ K := by
  have hparts : ∀ a : Act, (parts.map fun (i, x) => (i, a.eval x)).toList = parts.toList.map fun p => (p.1, a.eval p.2) := fun a => by simp
  unfold vBuild at h
  split at h
  · rename_i fs sz by' ze ht
    split at h
    · rename_i l hl
      obtain ⟨hok, h⟩ := h
      split at h
      · rename_i xs hf
        refine ⟨_, _, actOk_val hd (fun Δ a w g hr r => ?_), h⟩
        have hti := hT t _ ht
        obtain ⟨d, hu, he⟩ := hti.und'
        obtain ⟨j, z, hj, hs, hb, hz, hc⟩ := hti.info'
        cases d <;> simp [dK] at he
        rename_i fl
        obtain ⟨cells, hcells, hall⟩ := fill_rel (fun i => l[i]?) _ _ z.cells _ xs (zero_rel (w := w) (g := g) hc hti.zok) (partsT_rel (T := T) (ty := fty fs) (parts := parts.toList) r (fun n hn => hr n (by simp [hn])) (fun n hn => hr n (List.mem_append_right _ hn)) hok) hf
        refine ⟨.agg cells, ?_, ⟨cells, rfl, hall⟩⟩
        simp only [execOp, ho]
        refine run_v (run_build w t _ cells ?_)
        rw [hparts a]
        unfold Program.built
        have hp := placesT_ok (fs := fl.toList) hT (by rw [he]; exact hl)
        simp only [hj, hu, hz, hp]
        simpa using hcells
      · exact h.elim
    · exact h.elim
  · rename_i n e sz by' ze ht
    split at h
    · rename_i ei hei
      obtain ⟨hok, h⟩ := h
      split at h
      · rename_i xs hf
        refine ⟨_, _, actOk_val hd (fun Δ a w g hr r => ?_), h⟩
        have hti := hT t _ ht
        have hu := hti.arr rfl
        obtain ⟨j, z, hj, hs, hb, hz, hc⟩ := hti.info'
        obtain ⟨j', z', hj', hs', _⟩ := (hT e ei hei).info'
        obtain ⟨cells, hcells, hall⟩ := fill_rel (fun i => some (i * ei.size, ei.size)) _ _ z.cells _ xs (zero_rel (w := w) (g := g) hc hti.zok) (partsT_rel (T := T) (ty := fun _ => e) (parts := parts.toList) r (fun n hn => hr n (by simp [hn])) (fun n hn => hr n (List.mem_append_right _ hn)) hok) hf
        refine ⟨.agg cells, ?_, ⟨cells, rfl, hall⟩⟩
        simp only [execOp, ho]
        refine run_v (run_build w t _ cells ?_)
        rw [hparts a]
        unfold Program.built
        simp only [hj, hu, hz, hj', hs']
        exact hcells
      · exact h.elim
    · exact h.elim
  · exact h.elim
/-! ### a slice that is written out -/
def zSV : ZC → SV
  | .raw v => .raw v
  | .nil _ e => .sl e []
theorem zSV_rel {w o z} (h : z.ok = true) : SVR w o z.val (zSV z) := by
  cases z with
  | raw v => exact .raw v h
  | nil ty e => exact .nil _ _ _ fun _ => rfl
def zeros (n : Nat) (zs : List ZC) : List SV := (List.range n).map fun j => (zs.map zSV).getD (j % zs.length) (.raw (.bool false))
/-- The parts' cells as values that do not change. -/
def partsF (Γ : Nm → C) : List (Nat × List TV) → Option (List (Nat × List SV) × List Nat)
  | [] => some ([], [])
  | (i, xs) :: r => match frzL Γ xs, partsF Γ r with
    | some (s, h1), some (ss, h2) => some ((i, s) :: ss, h1 ++ h2)
    | _, _ => none
theorem partsF_rel {Γ Δ nt a w g} (r : Rel Δ nt a w g) {hs} : ∀ {parts : List (Nat × Value)} {ps ss hs0}, partsF Γ ps = some (ss, hs0) → (∀ k ∈ hs0, Δ (.row k) = Γ (.row k)) → (∀ k ∈ hs0, k ∈ hs) →
    All2 (fun (p : Nat × Value) (q : Nat × List TV) => p.1 = q.1 ∧ All2 (TVR w g) p.2.cells.toList q.2) parts ps → All2 (fun (p : Nat × Value) (q : Nat × List SV) => p.1 = q.1 ∧ All2 (SVR w (g.frz hs).o) p.2.cells.toList q.2) parts ss := by
  intro parts ps
  induction ps generalizing parts with
  | nil =>
    intro ss hs0 h hr hsub ha
    simp [partsF] at h
    obtain ⟨rfl, rfl⟩ := h
    cases parts with
    | nil => exact .nil
    | cons u us => have := ha.1; simp at this
  | cons x xs ih =>
    intro ss hs0 h hr hsub ha
    cases parts with
    | nil => have := ha.1; simp at this
    | cons u us =>
      obtain ⟨xi, xl⟩ := x
      simp only [partsF] at h
      split at h
      · rename_i s h1 ss' h2 e1 e2
        cases h
        exact .cons ⟨ha.head.1, frzL_rel r e1 (fun k hk => hr k (by simp [hk])) (fun k hk => hsub k (by simp [hk])) ha.head.2⟩ (ih e2 (fun k hk => hr k (by simp [hk])) (fun k hk => hsub k (by simp [hk])) ha.tail)
      · cases h
def vBuildSlice (T : Tab) (Γ : Nm → C) (i : Nat) (o : Oper) (t len : Nat) (parts : List (Nat × Operand)) (K : List Nm → List (Nm × C) → Prop) : Prop :=
  match T t with
  | some ⟨.slice el, _, _, _⟩ => match T el with
    | some ei => (partsT T Γ (fun _ => el) parts).all (fun p => p.2.all (cellOk Γ)) = true ∧ 0 < ei.size ∧ ei.zero.length = ei.size ∧ len * ei.size ≤ 16777216 ∧ match partsF Γ (partsT T Γ (fun _ => el) parts) with
      | some (ps, hs) => match fillG (fun i => some (i * ei.size, ei.size)) (zeros (len * ei.size) ei.zero) ps with
        | some xs => xs.length = len * ei.size ∧ K (partsR parts ++ ((partsT T Γ (fun _ => el) parts).flatMap fun p => p.2.flatMap tvNm) ++ hs.map .row) (putT o.dst (.p (.one (.sr (th i 0)))) ++ ((.row (th i 0), .row el ei.size xs) :: frzW hs))
        | none => False
      | none => False
    | none => False
  | _ => False
theorem Unm.frzW {Γ : Nm → C} {k hs} (h : Unm Γ k) : Unm (ups Γ (frzW hs)) k := fun n => by
  rw [ups_frzW]
  split
  · exact ⟨by simp [C.ment], fun _ => rfl⟩
  · exact h n
theorem run_buildSlice {P : Program} {t el len : Nat} {ei : TI} {parts : Array (Nat × Value)} {cells : Array Value} (hu : P.underlying t = some (.slice el)) (hi : TIok P el ei) (h0 : 0 < ei.size) (hl : len * ei.size ≤ 16777216) {w : World} {z : Value}
    (hz : ∀ w, (zeroValue el).run P w = .ok z w) (hf : Instr.fill (fun i => some (i * ei.size, ei.size)) ((Array.range (len * ei.size)).map (z.cells[· % z.cells.size]!)) parts.toList = some cells) :
    (Instr.buildSlice t len parts).run P w = .ok (.slice (some ⟨w.heap.size, 0, none⟩) len len) (w.alloc (.cells cells el)) := by
  unfold Instr.buildSlice
  rw [run_bind_ok (run_underlying hu w)]
  simp only []
  rw [run_bind_ok (hi.run_size w)]
  rw [if_neg (by omega)]
  by_cases hn : len * ei.size = 0
  · have hlen : len = 0 := by rcases Nat.mul_eq_zero.1 hn with h | h <;> omega
    subst hlen
    simp only [Nat.zero_mul] at hf ⊢
    simp only [if_true]
    rw [run_bind_ok (a := (#[] : Array Value)) (w' := w) rfl]
    have e : ((Array.range 0).map fun x => (#[] : Array Value)[x % (#[] : Array Value).size]!) = (Array.range 0).map (z.cells[· % z.cells.size]!) := by simp
    rw [e, hf]
    rfl
  · rw [if_neg hn]
    rw [run_bind_ok (hz w)]
    rw [run_bind_ok (a := z.cells) (w' := w) rfl]
    rw [hf]
    rfl
theorem made_zeros {P el ei} (hi : TIok P el ei) {w : World} {o : Nat → Tag} {z : Value} (hc : z.cells.toList = ei.zero.map ZC.val) (h0 : 0 < ei.size) (hl : ei.zero.length = ei.size) (n : Nat) :
    All2 (SVR w o) ((Array.range n).map (z.cells[· % z.cells.size]!)).toList (zeros n ei.zero) := by
  have hzs : z.cells.size = ei.zero.length := by have := congrArg List.length hc; simpa using this
  refine ⟨by simp [zeros], fun j u x h1 h2 => ?_⟩
  simp only [Array.toList_map, Array.toList_range, List.getElem?_map, zeros] at h1 h2
  by_cases hj : j < n
  · rw [List.getElem?_range hj] at h1 h2
    simp only [Option.map_some, Option.some.injEq] at h1 h2
    have hlt : j % ei.zero.length < ei.zero.length := Nat.mod_lt _ (by omega)
    have hz1 : z.cells[j % z.cells.size]! = (ei.zero[j % ei.zero.length]).val := by
      rw [hzs]
      have hlt' : j % ei.zero.length < z.cells.size := by omega
      rw [getElem!_pos z.cells _ hlt']
      have : z.cells.toList[j % ei.zero.length]? = some (ei.zero[j % ei.zero.length]).val := by rw [hc]; simp [hlt]
      simpa [hlt'] using this
    have hz2 : x = zSV (ei.zero[j % ei.zero.length]) := by rw [← h2]; simp [List.getD, hlt]
    rw [← h1, hz1, hz2]
    exact zSV_rel (List.all_eq_true.1 hi.zok _ (List.getElem_mem hlt))
  · rw [List.getElem?_eq_none (by simp; omega)] at h1; cases h1
theorem vBuildSlice_ok {P T Γ nt i o t len K} {parts : Array (Nat × Operand)} (hT : Tok P T) (hd : dOk nt o) (ho : o.op = .buildSlice t len parts) (h : vBuildSlice T Γ i o t len parts.toList K) : Good P nt i o Γ K := by
  have hparts : ∀ a : Act, (parts.map fun (i, x) => (i, a.eval x)).toList = parts.toList.map fun p => (p.1, a.eval p.2) := fun a => by simp
  unfold vBuildSlice at h
  split at h
  · rename_i el sz by' ze ht
    split at h
    · rename_i ei hei
      obtain ⟨hok, h0, hzl, hlim, h⟩ := h
      split at h
      · rename_i ps hs hps
        split at h
        · rename_i xs hf
          obtain ⟨hxl, h⟩ := h
          refine ⟨_, _, ?_, h⟩
          intro Δ a w g Q K' hr hu r hk
          have hti := hT el ei hei
          obtain ⟨z, _, hc⟩ := hti.run_zero w
          have hz : ∀ w, ∃ z', (zeroValue el).run P w = .ok z' w ∧ z'.cells.toList = ei.zero.map ZC.val := hti.run_zero
          obtain ⟨j, z2, hj, hs2, hb2, hz2, hc2⟩ := hti.info'
          have hzr : ∀ w, (zeroValue el).run P w = .ok z2 w := fun w => by simp [zeroValue, typeInfo, hj, hz2, go_sem]
          have r1 := r.frz hs
          have hrel := partsT_rel (T := T) (ty := fun _ => el) (parts := parts.toList) r (fun n hn => hr n (by simp only [List.mem_append]; exact .inl (.inl hn))) (fun n hn => hr n (by simp only [List.mem_append]; exact .inl (.inr hn))) hok
          have hrel2 := partsF_rel (hs := hs) r hps (fun k hk => hr _ (by simp [hk])) (fun k hk => hk) hrel
          obtain ⟨cells, hcells, hall⟩ := fill_rel (fun i => some (i * ei.size, ei.size)) _ _ _ _ xs (made_zeros hti (w := w) (o := (g.frz hs).o) hc2 h0 hzl (len * ei.size)) hrel2 hf
          have hrun : (execOp a.eval o).run P w = .ok (.value (.slice (some ⟨w.heap.size, 0, none⟩) len len)) (w.alloc (.cells cells el)) := by
            simp only [execOp, ho]
            refine run_v (run_buildSlice ((hT t _ ht).slice rfl) hti h0 hlim hzr ?_)
            rw [hparts a]
            exact hcells
          have hcs : cells.size = len * ei.size := by have := hall.1; simp at this; omega
          have hml : len ≤ maxLen := by
            have : len ≤ len * ei.size := Nat.le_mul_of_pos_right _ h0
            simp only [maxLen]
            omega
          have htk : cells.toList.take (len * ei.size) = cells.toList := List.take_of_length_le (by simp; omega)
          obtain ⟨r2, f2, x2⟩ := new_row r1 (h := th i 0) (hu (th i 0) (isTh_th (by omega))).frzW (v := .slice (some ⟨w.heap.size, 0, none⟩) len len) (ty := el) (e := ei.size) (n := len) (vs := cells.toList) (xs := xs) h0 hxl
            (World.grownBy_alloc w _ none) ⟨by simpa using hcs, .inr ⟨w.heap.size, len, cells, rfl, Nat.zero_le _, heap_alloc_new w _, Nat.le_refl _, hml, hcs, htk⟩⟩ (fun b hb => by simp [Value.ownBlock] at hb; omega) hall
          · exact wp_value hrun (hk _ _ _ (rel_putT' (Γ := Δ) hd (wr := (.row (th i 0), _) :: frzW hs) r2 x2) ((Fr.frz w g hs).trans f2))
        · exact h.elim
      · exact h.elim
    · exact h.elim
  · exact h.elim
end Go.Proofs.YtdpflafjfkooeaaGreatDoorG
