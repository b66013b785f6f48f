/- YtdpflafjfkooeaaGreatDoorZ1: a part of the proof, joined of its texts. -/
import Derived.Below
import Derived.Calls
import Derived.Orders
import Derived.Laws.AppendOwn
import Derived.Laws.OwnMore
import Derived.Laws.MakeOwn
import Derived.RegionTactic
import Derived.WalkKit
import Derived.WalkSpells
import Derived.WideLaws
import Derived.Lib.SliceRun
import Derived.Laws.Tables
import Derived.Great.BuildSlice
import Derived.RangeFuncNested
import Derived.RangeFuncLeaves
import Derived.OrdersIn
import Derived.Laws.BytesString
import Derived.ScopeJumps
import Derived.Test.YtdpflafjfkooeaaGreatDoorRows
import Derived.Deep.Slices
import Derived.WideShapes
import Derived.Test.YtdpflafjfkooeaaGreatDoorProg
import Derived.KernelRfl
import Derived.RecoverIn
import Derived.RegionIn
import Derived.LoopNIn
import Derived.TacticsInMore
import Derived.LaidEql
import Derived.Stop.Asserts
import Derived.RowKitTokens
/- G1: states by value, and what they say of a world. -/
namespace Go.Proofs.YtdpflafjfkooeaaGreatDoorG
open Go Go.RowKit
set_option linter.unusedVariables false
set_option linter.unusedSimpArgs false
/-- What one cell is, by value: a scalar, or a slice whose cells do not change. -/
inductive SV where
  | raw (v : Value)
  | sl (e : Nat) (xs : List SV)
  | pt (xs : List SV) (k : Nat)
  | clo (f : Nat) (xs : List SV)
  | ifc (t : Nat) (x : SV)   -- an interface that holds what is no scalar
  deriving Inhabited
/-- What a cell or a temporary holds: a value; the slice of row h; a pointer into box h, into row h, or to cells that do not change; the nil slice; a function that has caught own variables; or nothing is known. -/
inductive TV where
  | v (x : SV)
  | sr (h : Nat)
  | pr (h off : Nat)
  | er (h i : Nat)
  | cp (xs : List SV) (off : Nat)
  | nl (ty e : Nat)
  | nn (e : Nat) (xs : List SV)
  | cb (f : Nat) (hs : List Nat)
  | dead
  deriving Inhabited
inductive PX where
  | one (x : TV)
  | agg (xs : List TV)
  deriving Inhabited
inductive X where
  | p (x : PX)
  | tup (xs : List PX)
  deriving Inhabited
inductive C where
  | none
  | t (x : X)
  | row (ty e : Nat) (xs : List SV)
  | box (ty : Nat) (xs : List TV)
  | pan (v : Value)   -- no content: the mark of an operation that panics
  deriving Inhabited
inductive Nm where
  | t (i : Nat)
  | row (h : Nat)
  | box (h : Nat)
  deriving DecidableEq, Inhabited
inductive Tag where
  | other | imm | row (h : Nat) | box (h : Nat)
  deriving DecidableEq, Inhabited
structure Gh where
  o : Nat → Tag
  hd : Nat → Value
  bk : Nat → Nat
def simple : Value → Bool
  | .bool _ | .int .. | .float .. | .string _ | .pointer none | .nilFunc | .nilIface | .iface .. | .func .. | .map none => true
  | _ => false
inductive SVR (w : World) (o : Nat → Tag) : Value → SV → Prop
  | raw (v : Value) (h : simple v = true) : SVR w o v (.raw v)
  | nil (a : Option Addr) (cap e : Nat) (hn : a = none → cap = 0) : SVR w o (.slice a 0 cap) (.sl e [])
  | sl (b off len cap e : Nat) (xs : List SV) (us : List Value) (hb : o b = .imm) (he : 0 < e) (hl : 0 < len) (hx : xs.length = len * e) (hc : len ≤ cap) (hu : us.length = xs.length)
      (hm : ∀ j u, us[j]? = some u → w.cell? ⟨b, off + j, none⟩ = some u) (hr : ∀ (j : Nat) u x, us[j]? = some u → xs[j]? = some x → SVR w o u x) : SVR w o (.slice (some ⟨b, off, none⟩) len cap) (.sl e xs)
  | pt (b off k : Nat) (xs : List SV) (us : List Value) (hb : o b = .imm) (hu : us.length = xs.length)
      (hm : ∀ j u, us[j]? = some u → w.cell? ⟨b, off + j, none⟩ = some u) (hr : ∀ (j : Nat) u x, us[j]? = some u → xs[j]? = some x → SVR w o u x) : SVR w o (.pointer (some ⟨b, off + k, none⟩)) (.pt xs k)
  | clo (f : Nat) (xs : List SV) (us : List Value) (hu : us.length = xs.length) (hr : ∀ (j : Nat) u x, us[j]? = some u → xs[j]? = some x → SVR w o u x) : SVR w o (.func (.func f) #[] us.toArray) (.clo f xs)
  | ifc (t : Nat) (u : Value) (x : SV) (h : SVR w o u x) : SVR w o (.iface t u) (.ifc t x)
theorem SVR.mono {w w' : World} {o o' : Nat → Tag} (h : ∀ b, o b = .imm → o' b = .imm ∧ w'.heap[b]? = w.heap[b]?) {v : Value} {x : SV} (r : SVR w o v x) : SVR w' o' v x := by
  induction r with
  | raw v hs => exact .raw v hs
  | nil a cap e hn => exact .nil a cap e hn
  | sl b off len cap e xs us hb he hl hx hc hu hm hr ih =>
    refine .sl b off len cap e xs us (h b hb).1 he hl hx hc hu (fun j u hj => ?_) (fun j u x h1 h2 => ih j u x h1 h2)
    rw [← hm j u hj]
    exact World.cell?_of_block (h b hb).2
  | pt b off k xs us hb hu hm hr ih =>
    refine .pt b off k xs us (h b hb).1 hu (fun j u hj => ?_) (fun j u x h1 h2 => ih j u x h1 h2)
    rw [← hm j u hj]
    exact World.cell?_of_block (h b hb).2
  | clo f xs us hu hr ih => exact .clo f xs us hu fun j u x h1 h2 => ih j u x h1 h2
  | ifc t u x hx ih => exact .ifc t u x ih
theorem SVR.oneCell {w : World} {o : Nat → Tag} {v : Value} {x : SV} (r : SVR w o v x) : v.oneCell' = true := by
  cases r with
  | raw v hs => cases v <;> simp_all [simple, Value.oneCell']
  | nil => rfl
  | sl => rfl
  | pt => rfl
  | clo => rfl
  | ifc => rfl
/-- Cells from an address on, that do not change; the pointer stands at the off-th. -/
def CPR (w : World) (o : Nat → Tag) (u : Value) (xs : List SV) (k : Nat) : Prop :=
  ∃ b off, ∃ us : List Value, u = .pointer (some ⟨b, off + k, none⟩) ∧ o b = .imm ∧ us.length = xs.length ∧ (∀ j u, us[j]? = some u → w.cell? ⟨b, off + j, none⟩ = some u) ∧
    ∀ (j : Nat) u x, us[j]? = some u → xs[j]? = some x → SVR w o u x
theorem SVR.cpr {w : World} {o : Nat → Tag} {u : Value} {xs : List SV} {k : Nat} (h : SVR w o u (.pt xs k)) : CPR w o u xs k := by
  cases h with
  | pt b off _ _ us hb hu hm hr => exact ⟨b, off, us, rfl, hb, hu, hm, hr⟩
theorem CPR.svr {w : World} {o : Nat → Tag} {u : Value} {xs : List SV} {k : Nat} (h : CPR w o u xs k) : SVR w o u (.pt xs k) := by
  obtain ⟨b, off, us, rfl, hb, hu, hm, hr⟩ := h
  exact .pt b off k xs us hb hu hm hr
def TVR (w : World) (g : Gh) (u : Value) : TV → Prop
  | .v x => SVR w g.o u x
  | .sr h => u = g.hd h
  | .pr h off => u = .pointer (some ⟨g.bk h, off, none⟩)
  | .er h i => ∃ b n cap, g.hd h = .slice (some ⟨b, 0, none⟩) n cap ∧ u = .pointer (some ⟨b, i, none⟩)
  | .cp xs k => CPR w g.o u xs k
  | .nl _ _ => u = .slice none 0 0
  | .nn e xs => SVR w g.o u (.sl e xs) ∧ ∀ n c, u ≠ .slice none n c
  | .cb f hs => u = .func (.func f) #[] (hs.map fun h => Value.pointer (some ⟨g.bk h, 0, none⟩)).toArray
  | .dead => True
/-- Pointwise. -/
def All2 {α β : Type} (R : α → β → Prop) (us : List α) (xs : List β) : Prop := us.length = xs.length ∧ ∀ (j : Nat) u x, us[j]? = some u → xs[j]? = some x → R u x
theorem All2.mono {α β : Type} {R R' : α → β → Prop} {us : List α} {xs : List β} (h : All2 R us xs) (hr : ∀ u x, R u x → R' u x) : All2 R' us xs :=
  ⟨h.1, fun j u x h1 h2 => hr _ _ (h.2 j u x h1 h2)⟩
theorem All2.mono' {α β : Type} {R R' : α → β → Prop} {us : List α} {xs : List β} (h : All2 R us xs) (hr : ∀ u x, x ∈ xs → R u x → R' u x) : All2 R' us xs :=
  ⟨h.1, fun j u x h1 h2 => hr _ _ (List.mem_of_getElem? h2) (h.2 j u x h1 h2)⟩
theorem All2.nil {α β : Type} {R : α → β → Prop} : All2 R [] [] := ⟨rfl, fun j u x h => by simp at h⟩
theorem All2.cons {α β : Type} {R : α → β → Prop} {u : α} {x : β} {us : List α} {xs : List β} (h : R u x) (t : All2 R us xs) : All2 R (u :: us) (x :: xs) := by
  refine ⟨by simp [t.1], fun j u' x' h1 h2 => ?_⟩
  cases j with
  | zero => simp at h1 h2; subst h1; subst h2; exact h
  | succ j => simp at h1 h2; exact t.2 j _ _ h1 h2
theorem All2.head {α β : Type} {R : α → β → Prop} {u : α} {x : β} {us : List α} {xs : List β} (h : All2 R (u :: us) (x :: xs)) : R u x := h.2 0 u x rfl rfl
theorem All2.tail {α β : Type} {R : α → β → Prop} {u : α} {x : β} {us : List α} {xs : List β} (h : All2 R (u :: us) (x :: xs)) : All2 R us xs :=
  ⟨by have := h.1; simpa using this, fun j u' x' h1 h2 => h.2 (j + 1) u' x' (by simpa using h1) (by simpa using h2)⟩
theorem All2.append {α β : Type} {R : α → β → Prop} {us us' : List α} {xs xs' : List β} (h : All2 R us xs) (h' : All2 R us' xs') : All2 R (us ++ us') (xs ++ xs') := by
  induction us generalizing xs with
  | nil => cases xs with
    | nil => exact h'
    | cons x xs => have := h.1; simp at this
  | cons u us ih => cases xs with
    | nil => have := h.1; simp at this
    | cons x xs => exact .cons h.head (ih h.tail)
theorem All2.take {α β : Type} {R : α → β → Prop} {us : List α} {xs : List β} (h : All2 R us xs) (n : Nat) : All2 R (us.take n) (xs.take n) := by
  refine ⟨by simp [h.1], fun j u x h1 h2 => ?_⟩
  rw [List.getElem?_take] at h1 h2
  split at h1
  · rename_i hj; rw [if_pos hj] at h2; exact h.2 j u x h1 h2
  · cases h1
theorem All2.drop {α β : Type} {R : α → β → Prop} {us : List α} {xs : List β} (h : All2 R us xs) (n : Nat) : All2 R (us.drop n) (xs.drop n) := by
  refine ⟨by simp [h.1], fun j u x h1 h2 => ?_⟩
  rw [List.getElem?_drop] at h1 h2
  exact h.2 _ u x h1 h2
theorem All2.set {α β : Type} {R : α → β → Prop} {us : List α} {xs : List β} (h : All2 R us xs) (n : Nat) {u : α} {x : β} (r : R u x) : All2 R (us.set n u) (xs.set n x) := by
  refine ⟨by simp [h.1], fun j u' x' h1 h2 => ?_⟩
  rw [List.getElem?_set] at h1 h2
  split at h1
  · rename_i hj
    rw [if_pos hj] at h2
    split at h1
    · split at h2
      · cases h1; cases h2; exact r
      · cases h2
    · cases h1
  · rename_i hj; rw [if_neg hj] at h2; exact h.2 j _ _ h1 h2
def PXR (w : World) (g : Gh) (u : Value) : PX → Prop
  | .one x => TVR w g u x
  | .agg xs => ∃ cs : Array Value, u = .agg cs ∧ All2 (TVR w g) cs.toList xs
def XR (w : World) (g : Gh) (u : Value) : X → Prop
  | .p x => PXR w g u x
  | .tup xs => ∃ vs : Array Value, u = .tuple vs ∧ All2 (PXR w g) vs.toList xs
/-- The row's cells are its own; or it is empty and without room. -/
def OwnR (w : World) (g : Gh) (h ty e n : Nat) (vs : List Value) : Prop :=
  (w.ownsRow 0 ty e (g.hd h) n vs ∧ ∀ b, (g.hd h).ownBlock = some b → g.o b = .row h) ∨ (n = 0 ∧ vs = [] ∧ ∃ b, g.hd h = .slice (some b) 0 0)
def RowR (w : World) (g : Gh) (h ty e : Nat) (xs : List SV) : Prop :=
  ∃ n vs, 0 < e ∧ xs.length = n * e ∧ OwnR w g h ty e n vs ∧ All2 (SVR w g.o) vs xs
def BoxR (w : World) (g : Gh) (h ty : Nat) (xs : List TV) : Prop :=
  ∃ cur, w.heap[g.bk h]? = some (.cells cur ty (0, 0)) ∧ g.o (g.bk h) = .box h ∧ All2 (TVR w g) cur.toList xs
def CR (a : Act) (w : World) (g : Gh) : Nm → C → Prop
  | .t i, .t x => XR w g (a.tmps.getD i undef) x
  | .row h, .row ty e xs => RowR w g h ty e xs
  | .box h, .box ty xs => BoxR w g h ty xs
  | _, .pan _ => False
  | _, _ => True
/-- What the listed variable (block 0) holds, where the seat has one (GON). -/
def GON : Bool := true
def GV : Value := .iface 135 (.agg #[.pointer (some ⟨1, 59, none⟩)])
def GR (w : World) (o : Nat → Tag) : Prop := GON = true → o 0 = .imm ∧ w.cell? ⟨0, 0, none⟩ = some GV
theorem GR.keep {w w' : World} {o o' : Nat → Tag} (h : GR w o) (hk : o 0 = .imm → w'.heap[0]? = w.heap[0]? ∧ o' 0 = .imm) : GR w' o' := fun q => by
  obtain ⟨h1, h2⟩ := h q
  obtain ⟨h3, h4⟩ := hk h1
  exact ⟨h4, (World.cell?_of_block (a := ⟨0, 0, none⟩) h3).trans h2⟩
structure Rel (Γ : Nm → C) (nt : Nat) (a : Act) (w : World) (g : Gh) : Prop where
  size : a.tmps.size = nt
  df : a.defers = []
  tags : ∀ b, g.o b ≠ .other → b < w.heap.size
  gl : GR w g.o
  cr : ∀ n, CR a w g n (Γ n)
/-- A variable's block keeps its type and its size. -/
def Shp (w w' : World) (b : Nat) : Prop := ∀ cur ty f, w.heap[b]? = some (.cells cur ty f) → ∃ cur', w'.heap[b]? = some (.cells cur' ty f) ∧ cur'.size = cur.size
theorem Shp.refl (w : World) (b : Nat) : Shp w w b := fun cur ty f h => ⟨cur, h, rfl⟩
theorem Shp.of_eq {w w' : World} {b : Nat} (h : w'.heap[b]? = w.heap[b]?) : Shp w w' b := fun cur ty f hc => ⟨cur, h.trans hc, rfl⟩
theorem Shp.trans {w w1 w2 : World} {b : Nat} (h : Shp w w1 b) (k : Shp w1 w2 b) : Shp w w2 b := fun cur ty f hc => by
  obtain ⟨c1, h1, e1⟩ := h cur ty f hc
  obtain ⟨c2, h2, e2⟩ := k c1 ty f h1
  exact ⟨c2, h2, e2.trans e1⟩
/-- No row. -/
def Tag.nr : Tag → Bool
  | .row _ => false
  | _ => true
/-- What is not one's own stays as it was. -/
structure Fr (w w' : World) (o o' : Nat → Tag) : Prop where
  os : w'.os = w.os
  tape : w'.tape = w.tape
  output : w'.output = w.output
  size : w.heap.size ≤ w'.heap.size
  keep : ∀ b, b < w.heap.size → (o b = .other ∨ o b = .imm) → w'.heap[b]? = w.heap[b]? ∧ o' b = o b
  bx : ∀ b, b < w.heap.size → (∃ k, o b = .box k) → (o' b).nr = true ∧ Shp w w' b
theorem Fr.refl (w : World) (o : Nat → Tag) : Fr w w o o := ⟨rfl, rfl, rfl, Nat.le_refl _, fun _ _ _ => ⟨rfl, rfl⟩, fun b _ ⟨k, hk⟩ => ⟨by rw [hk]; rfl, Shp.refl w b⟩⟩
theorem Fr.trans {w w1 w2 : World} {o o1 o2 : Nat → Tag} (h : Fr w w1 o o1) (k : Fr w1 w2 o1 o2) : Fr w w2 o o2 :=
  ⟨k.os.trans h.os, k.tape.trans h.tape, k.output.trans h.output, Nat.le_trans h.size k.size, fun b hb ho => by
    have h1 := h.keep b hb ho
    have h2 := k.keep b (Nat.lt_of_lt_of_le hb h.size) (by rw [h1.2]; exact ho)
    exact ⟨h2.1.trans h1.1, h2.2.trans h1.2⟩, fun b hb ho => by
    obtain ⟨q1, q2⟩ := h.bx b hb ho
    have hb' := Nat.lt_of_lt_of_le hb h.size
    cases ht : o1 b with
    | row j => rw [ht] at q1; cases q1
    | box j =>
      obtain ⟨q3, q4⟩ := k.bx b hb' ⟨_, ht⟩
      exact ⟨q3, q2.trans q4⟩
    | other => obtain ⟨e1, e2⟩ := k.keep b hb' (.inl ht); exact ⟨by rw [e2, ht]; rfl, q2.trans (Shp.of_eq e1)⟩
    | imm => obtain ⟨e1, e2⟩ := k.keep b hb' (.inr ht); exact ⟨by rw [e2, ht]; rfl, q2.trans (Shp.of_eq e1)⟩⟩
/-! ### which homes a content speaks of -/
def TV.ment : TV → Nat → Prop
  | .sr h, k | .pr h _, k | .er h _, k => h = k
  | .cb _ hs, k => k ∈ hs
  | _, _ => False
def PX.ment : PX → Nat → Prop
  | .one x, k => x.ment k
  | .agg xs, k => ∃ x ∈ xs, x.ment k
def X.ment : X → Nat → Prop
  | .p x, k => x.ment k
  | .tup xs, k => ∃ x ∈ xs, x.ment k
def C.ment : C → Nat → Prop
  | .t x, k => x.ment k
  | .box _ xs, k => ∃ x ∈ xs, x.ment k
  | _, _ => False
def Nm.ment : Nm → Nat → Prop
  | .row h, k | .box h, k => h = k
  | _, _ => False
/-- Nothing that is known speaks of home k. -/
def Unm (Γ : Nm → C) (k : Nat) : Prop := ∀ n, ¬ (Γ n).ment k ∧ (n.ment k → Γ n = .none)
def Nm.tag : Nm → Tag
  | .t _ => .other
  | .row h => .row h
  | .box h => .box h
/-- From one world to another: what is told stays, but for the block of one name. M: the homes whose ghosts stay. -/
structure Ext (w w' : World) (g g' : Gh) (τ : Option Nm) (M : Nat → Prop) : Prop where
  size : w.heap.size ≤ w'.heap.size
  blk : ∀ b, g.o b ≠ .other → (∀ n, τ = some n → g.o b ≠ n.tag) → w'.heap[b]? = w.heap[b]? ∧ g'.o b = g.o b
  new : ∀ b, g'.o b ≠ .other → b < w'.heap.size
  hd : ∀ k, M k → g'.hd k = g.hd k
  bk : ∀ k, M k → g'.bk k = g.bk k
theorem Ext.imm {w w' g g' τ M} (h : Ext w w' g g' τ M) (b : Nat) (hb : g.o b = .imm) : w'.heap[b]? = w.heap[b]? ∧ g'.o b = g.o b :=
  h.blk b (by rw [hb]; simp) (fun n _ => by rw [hb]; cases n <;> simp [Nm.tag])
theorem Ext.gr {w w' g g' τ M} (h : Ext w w' g g' τ M) (r : GR w g.o) : GR w' g'.o := r.keep fun q => ⟨(h.imm 0 q).1, (h.imm 0 q).2.trans q⟩
theorem Ext.svr {w w' g g' τ M} (h : Ext w w' g g' τ M) {v x} (r : SVR w g.o v x) : SVR w' g'.o v x :=
  r.mono fun b hb => ⟨(h.imm b hb).2.trans hb, (h.imm b hb).1⟩
theorem Ext.cpr {w w' g g' τ M} (h : Ext w w' g g' τ M) {v x k} (r : CPR w g.o v x k) : CPR w' g'.o v x k := by
  obtain ⟨b, off, us, hv, hb, hl, hc, hr⟩ := r
  have hk := h.imm b hb
  exact ⟨b, off, us, hv, hk.2.trans hb, hl, fun j u hj => (World.cell?_of_block hk.1).trans (hc j u hj), fun j u x h1 h2 => h.svr (hr j u x h1 h2)⟩
theorem Ext.tvr {w w' g g' τ M} (h : Ext w w' g g' τ M) {v} {x : TV} (hm : ∀ k, x.ment k → M k) (r : TVR w g v x) : TVR w' g' v x := by
  cases x with
  | v x => exact h.svr r
  | sr k => exact r.trans (h.hd k (hm k rfl)).symm
  | pr k off => exact r.trans (by rw [h.bk k (hm k rfl)])
  | er k i => obtain ⟨b, n, c, h1, h2⟩ := r; exact ⟨b, n, c, (h.hd k (hm k rfl)).trans h1, h2⟩
  | cp xs k => exact h.cpr r
  | nl ty e => exact r
  | nn e xs => exact ⟨h.svr r.1, r.2⟩
  | cb f hs =>
    refine r.trans ?_
    have : (hs.map fun k => Value.pointer (some ⟨g.bk k, 0, none⟩)) = hs.map fun k => Value.pointer (some ⟨g'.bk k, 0, none⟩) := List.map_congr_left fun k hk => by rw [h.bk k (hm k hk)]
    rw [this]
  | dead => trivial
theorem Ext.pxr {w w' g g' τ M} (h : Ext w w' g g' τ M) {v} {x : PX} (hm : ∀ k, x.ment k → M k) (r : PXR w g v x) : PXR w' g' v x := by
  cases x with
  | one x => exact h.tvr hm r
  | agg xs => obtain ⟨cs, hv, ha⟩ := r; exact ⟨cs, hv, ha.mono' fun u x hx => h.tvr fun k hk => hm k ⟨x, hx, hk⟩⟩
theorem Ext.xr {w w' g g' τ M} (h : Ext w w' g g' τ M) {v} {x : X} (hm : ∀ k, x.ment k → M k) (r : XR w g v x) : XR w' g' v x := by
  cases x with
  | p x => exact h.pxr hm r
  | tup xs => obtain ⟨cs, hv, ha⟩ := r; exact ⟨cs, hv, ha.mono' fun u x hx => h.pxr fun k hk => hm k ⟨x, hx, hk⟩⟩
theorem ownsRow_blk {w w' : World} {ty e : Nat} {v : Value} {n : Nat} {vs : List Value} (h : w.ownsRow 0 ty e v n vs) (hb : ∀ b, v.ownBlock = some b → w'.heap[b]? = w.heap[b]?) : w'.ownsRow 0 ty e v n vs := by
  refine ⟨h.1, ?_⟩
  rcases h.2 with hn | ⟨g, cap, cur, rfl, h1, h2, rest⟩
  · exact .inl hn
  · exact .inr ⟨g, cap, cur, rfl, h1, by rw [hb g rfl]; exact h2, rest⟩
theorem Ext.rowr {w w' g g' τ M} (h : Ext w w' g g' τ M) {k ty e xs} (hm : M k) (hτ : τ ≠ some (.row k)) (r : RowR w g k ty e xs) : RowR w' g' k ty e xs := by
  obtain ⟨n, vs, he, hn, ho', ha⟩ := r
  have e1 := h.hd k hm
  refine ⟨n, vs, he, hn, ?_, ha.mono fun u x => h.svr⟩
  rcases ho' with ⟨ho, hb⟩ | ⟨q1, q2, b, q3⟩
  case inr => exact .inr ⟨q1, q2, b, e1.trans q3⟩
  have hk : ∀ b, (g.hd k).ownBlock = some b → w'.heap[b]? = w.heap[b]? ∧ g'.o b = g.o b := fun b hb' => h.blk b (by rw [hb b hb']; simp) (fun n hn hc => by
    rw [hb b hb'] at hc; cases n <;> simp [Nm.tag] at hc; exact hτ (by rw [hn, hc]))
  exact .inl ⟨by rw [e1]; exact ownsRow_blk ho fun b hb' => (hk b hb').1, fun b hb' => by rw [e1] at hb'; exact (hk b hb').2.trans (hb b hb')⟩
theorem Ext.boxr {w w' g g' τ M} (h : Ext w w' g g' τ M) {k ty xs} (hm : M k) (hτ : τ ≠ some (.box k)) (hx : ∀ j, (∃ x ∈ xs, TV.ment x j) → M j) (r : BoxR w g k ty xs) : BoxR w' g' k ty xs := by
  obtain ⟨cur, h1, h2, h3⟩ := r
  have e1 := h.bk k hm
  have hk := h.blk (g.bk k) (by rw [h2]; simp) (fun n hn hc => by
    rw [h2] at hc; cases n <;> simp [Nm.tag] at hc; exact hτ (by rw [hn, hc]))
  exact ⟨cur, by rw [e1, hk.1]; exact h1, by rw [e1, hk.2]; exact h2, h3.mono' fun u x hx' => h.tvr fun j hj => hx j ⟨x, hx', hj⟩⟩
theorem Ext.cr {w w' g g' τ M} (h : Ext w w' g g' τ M) {a n} {c : C} (hτ : τ ≠ some n) (hm : ∀ k, c.ment k → M k) (hn : ∀ k, n.ment k → c ≠ .none → M k) (r : CR a w g n c) : CR a w' g' n c := by
  cases n <;> cases c <;> first | exact r | trivial | skip
  · exact h.xr hm r
  · exact h.rowr (hn _ rfl (by simp)) hτ r
  · exact h.boxr (hn _ rfl (by simp)) hτ hm r
/-- The world goes on: what is known stays, if the homes that it speaks of stay. -/
theorem Rel.ext {Γ nt a w g w' g'} (r : Rel Γ nt a w g) (h : Ext w w' g g' none fun k => ¬ Unm Γ k) : Rel Γ nt a w' g' :=
  ⟨r.size, r.df, h.new, h.gr r.gl, fun n => h.cr (by simp) (fun k hk hu => (hu n).1 hk) (fun k hk hc hu => hc ((hu n).2 hk)) (r.cr n)⟩
def up (Γ : Nm → C) (n : Nm) (c : C) : Nm → C := fun m => if m = n then c else Γ m
def ups (Γ : Nm → C) : List (Nm × C) → Nm → C
  | [] => Γ
  | p :: r => up (ups Γ r) p.1 p.2
@[simp] theorem up_same (Γ n c) : up Γ n c n = c := by simp [up]
theorem up_ne {Γ : Nm → C} {n m c} (h : m ≠ n) : up Γ n c m = Γ m := by simp [up, h]
theorem ups_notin {Γ : Nm → C} {wr : List (Nm × C)} {n} (h : n ∉ wr.map (·.1)) : ups Γ wr n = Γ n := by
  induction wr with
  | nil => rfl
  | cons p r ih => simp at h; rw [ups, up_ne h.1]; exact ih (by simpa using h.2)
theorem ups_in {Γ Γ' : Nm → C} {wr : List (Nm × C)} {n} (h : n ∈ wr.map (·.1)) : ups Γ wr n = ups Γ' wr n := by
  induction wr with
  | nil => simp at h
  | cons p r ih =>
    by_cases e : n = p.1
    · subst e; simp [ups]
    · rw [ups, up_ne e, ups, up_ne e]; simp [e] at h; exact ih (by simpa using h)
theorem Rel.upd {Γ nt a w g} (r : Rel Γ nt a w g) {n c} (h : CR a w g n c) : Rel (up Γ n c) nt a w g :=
  ⟨r.size, r.df, r.tags, r.gl, fun m => by
    by_cases e : m = n
    · subst e; rw [up_same]; exact h
    · rw [up_ne e]; exact r.cr m⟩
/-- One name's block is written. -/
theorem Rel.extUp {Γ nt a w g w' g'} (r : Rel Γ nt a w g) {n c} (h : Ext w w' g g' (some n) fun k => ¬ Unm Γ k) (hc : CR a w' g' n c) : Rel (up Γ n c) nt a w' g' :=
  ⟨r.size, r.df, h.new, h.gr r.gl, fun m => by
    by_cases e : m = n
    · subst e; rw [up_same]; exact hc
    · rw [up_ne e]; exact h.cr (by simpa using Ne.symm e) (fun k hk hu => (hu m).1 hk) (fun k hk hc hu => hc ((hu m).2 hk)) (r.cr m)⟩
theorem Rel.upNone {Γ nt a w g} (r : Rel Γ nt a w g) (n) : Rel (up Γ n .none) nt a w g := r.upd (by cases n <;> trivial)
theorem put_getD (a : Act) (d i : Nat) (v : Value) (hd : d < a.tmps.size) : (a.put (some d) v).tmps.getD i undef = if i = d then v else a.tmps.getD i undef := by
  simp only [Act.put, Array.getD_eq_getD_getElem?, Array.getElem?_setIfInBounds]
  by_cases e : i = d
  · subst e; simp [hd]
  · simp [e, Ne.symm e]
theorem CR.put {a : Act} {w g n c d v} (hd : d < a.tmps.size) (hn : n ≠ .t d) (r : CR a w g n c) : CR (a.put (some d) v) w g n c := by
  cases n with
  | t i =>
    cases c <;> first | trivial | skip
    have hi : i ≠ d := fun e => hn (by rw [e])
    simp only [CR, put_getD a d i v hd, if_neg hi]
    exact r
  | row h => cases c <;> exact r
  | box h => cases c <;> exact r
theorem Rel.put {Γ nt a w g} (r : Rel Γ nt a w g) {d v c} (hd : d < nt) (h : CR (a.put (some d) v) w g (.t d) c) : Rel (up Γ (.t d) c) nt (a.put (some d) v) w g :=
  ⟨by simpa [Act.put] using r.size, by simpa [Act.put] using r.df, r.tags, r.gl, fun m => by
    by_cases e : m = .t d
    · subst e; rw [up_same]; exact h
    · rw [up_ne e]; exact (r.cr m).put (by rw [r.size]; exact hd) e⟩
/-- A temporary gets a value. -/
theorem Rel.putX {Γ nt a w g} (r : Rel Γ nt a w g) {d v x} (hd : d < nt) (h : XR w g v x) : Rel (up Γ (.t d) (.t x)) nt (a.put (some d) v) w g :=
  r.put hd (by simp only [CR, put_getD a d d v (by rw [r.size]; exact hd), if_pos]; exact h)
theorem Rel.tmp {Γ nt a w g} (r : Rel Γ nt a w g) {i x} (h : Γ (.t i) = .t x) : XR w g (a.tmps.getD i undef) x := by
  have := r.cr (.t i); rw [h] at this; exact this
theorem Rel.row {Γ nt a w g} (r : Rel Γ nt a w g) {h ty e xs} (hh : Γ (.row h) = .row ty e xs) : RowR w g h ty e xs := by
  have := r.cr (.row h); rw [hh] at this; exact this
theorem Rel.box {Γ nt a w g} (r : Rel Γ nt a w g) {h ty xs} (hh : Γ (.box h) = .box ty xs) : BoxR w g h ty xs := by
  have := r.cr (.box h); rw [hh] at this; exact this
theorem Rel.gr' {Γ : Nm → C} {nt : Nat} {a : Act} {w w' : World} {g g' : Gh} (r : Rel Γ nt a w g) (f : Fr w w' g.o g'.o) : GR w' g'.o := r.gl.keep fun q => by
  have := f.keep 0 (r.tags 0 (by rw [q]; simp)) (.inr q)
  exact ⟨this.1, this.2.trans q⟩
end Go.Proofs.YtdpflafjfkooeaaGreatDoorG
/- G2: what operations do to states by value: the plain ones (values, loads, addresses). -/
namespace Go.Proofs.YtdpflafjfkooeaaGreatDoorG
open Go Go.RowKit
set_option linter.unusedVariables false
set_option linter.unusedSimpArgs false
/-! ### types, as far as they are needed -/
inductive TK where
  | int (k : IntKind) | bool | str | slice (e : Nat) | struct (fs : List (Nat × Nat)) | arr (n e : Nat) | ptr (e : Nat) | iface | other
  deriving Inhabited
inductive ZC where
  | raw (v : Value)
  | nil (ty e : Nat)
def ZC.val : ZC → Value
  | .raw v => v
  | .nil _ _ => .slice none 0 0
def ZC.ok : ZC → Bool
  | .raw v => simple v
  | .nil _ e => decide (0 < e)
structure TI where
  k : TK
  size : Nat
  bytes : Nat
  zero : List ZC
def dK : TypeDesc → TK
  | .int k => .int k | .bool => .bool | .string => .str | .slice e => .slice e | .array n e => .arr n e | .pointer e => .ptr e
  | .struct fs => .struct (fs.toList.map fun f => (f.type, f.offset))
  | .interface _ => .iface
  | _ => .other
def TK.agg : TK → Bool
  | .struct _ | .arr _ _ => true
  | _ => false
structure TIok (P : Program) (t : Nat) (i : TI) : Prop where
  und : (P.underlying t).map dK = some i.k
  info : (P.info? t).map (fun j => (j.size, j.bytes, j.zero.map fun z => z.cells.toList)) = some (i.size, i.bytes, some (i.zero.map ZC.val))
  zok : i.zero.all ZC.ok = true
abbrev Tab := Nat → Option TI
def Tok (P : Program) (T : Tab) : Prop := ∀ t i, T t = some i → TIok P t i
theorem TIok.und' {P t i} (h : TIok P t i) : ∃ d, P.underlying t = some d ∧ dK d = i.k := by
  have := h.und
  cases hd : P.underlying t with
  | none => simp [hd] at this
  | some d => simp [hd] at this; exact ⟨d, rfl, this⟩
theorem TIok.info' {P t i} (h : TIok P t i) : ∃ j z, P.info? t = some j ∧ j.size = i.size ∧ j.bytes = i.bytes ∧ j.zero = some z ∧ z.cells.toList = i.zero.map ZC.val := by
  have := h.info
  cases hd : P.info? t with
  | none => simp [hd] at this
  | some j =>
    simp only [hd, Option.map_some, Option.some.injEq, Prod.mk.injEq] at this
    obtain ⟨h1, h2, h3⟩ := this
    cases hz : j.zero with
    | none => simp [hz] at h3
    | some z => simp [hz] at h3; exact ⟨j, z, rfl, h1, h2, hz, h3⟩
theorem TIok.slice {P t i e} (h : TIok P t i) (hk : i.k = .slice e) : P.underlying t = some (.slice e) := by
  obtain ⟨d, hd, he⟩ := h.und'
  rw [hk] at he
  cases d <;> simp [dK] at he
  rw [hd, he]
theorem TIok.str {P t i} (h : TIok P t i) (hk : i.k = .str) : P.underlying t = some .string := by
  obtain ⟨d, hd, he⟩ := h.und'
  rw [hk] at he
  cases d <;> simp [dK] at he
  exact hd
/-! ### operands -/
def deadX : X := .p (.one .dead)
def rawX (v : Value) : X := .p (.one (.v (.raw v)))
def opX (Γ : Nm → C) : Operand → X
  | .tmp t => match Γ (.t t) with | .t x => x | _ => deadX
  | .const v => match v with
    | .slice none 0 0 => .p (.one (.nl 0 0))
    | v => if simple v then rawX v else deadX
  | .func f => rawX (.func (.func f) #[] #[])
  | .global _ => deadX
def opR : Operand → List Nm
  | .tmp t => [.t t]
  | _ => []
theorem dead_rel {w g v} : XR w g v deadX := trivial
theorem opX_rel {Γ nt a w g} (r : Rel Γ nt a w g) (x : Operand) : XR w g (a.eval x) (opX Γ x) := by
  cases x with
  | tmp t =>
    simp only [opX]
    cases h : Γ (.t t) <;> first | exact dead_rel | exact r.tmp h
  | const v =>
    simp only [opX, Act.eval]
    split
    · rfl
    · split
      · rename_i hs; exact .raw _ hs
      · exact dead_rel
  | func f => exact .raw _ rfl
  | global g => exact dead_rel
theorem opX_congr {Γ Δ : Nm → C} {x : Operand} (h : ∀ n ∈ opR x, Δ n = Γ n) : opX Δ x = opX Γ x := by
  cases x with
  | tmp t => simp only [opX]; rw [h (.t t) (by simp [opR])]
  | _ => rfl
theorem raw_of {w g v u} (r : XR w g v (rawX u)) : v = u ∧ simple u = true := by
  cases r with
  | raw _ h => exact ⟨rfl, h⟩
/-! ### actions -/
def th (i k : Nat) : Nat := 1000000 + 100 * i + k
def isTh (i k : Nat) : Prop := 1000000 + 100 * i ≤ k ∧ k < 1000000 + 100 * i + 100
theorem isTh_th {i k : Nat} (h : k < 100) : isTh i (th i k) := by unfold isTh th; omega
def ActOk (P : Program) (nt i : Nat) (o : Oper) (Γ : Nm → C) (rd : List Nm) (wr : List (Nm × C)) : Prop :=
  ∀ (Δ : Nm → C) (a : Act) (w : World) (g : Gh) (Q : Exit → Act → World → Prop) (K : Act → World → Prop), (∀ n ∈ rd, Δ n = Γ n) → (∀ k, isTh i k → Unm Δ k) → Rel Δ nt a w g →
    (∀ a' w' g', Rel (ups Δ wr) nt a' w' g' → Fr w w' g.o g'.o → K a' w') → o.wp P a w K Q
/-- There is an action that the rest goes on from. -/
def Good (P : Program) (nt i : Nat) (o : Oper) (Γ : Nm → C) (K : List Nm → List (Nm × C) → Prop) : Prop :=
  ∃ rd wr, ActOk P nt i o Γ rd wr ∧ K rd wr
def putT (d : Option Nat) (x : X) : List (Nm × C) := match d with | some d => [(.t d, .t x)] | none => []
def dOk (nt : Nat) (o : Oper) : Prop := match o.dst with | some d => d < nt | none => True
theorem wp_value {P : Program} {o : Oper} {a : Act} {w w' : World} {v : Value} {K : Act → World → Prop} {Q} (h : (execOp a.eval o).run P w = .ok (.value v) w') (hk : K (a.put o.dst v) w') : o.wp P a w K Q := by
  unfold Oper.wp; rw [h]; exact hk
theorem wp_skip' {P : Program} {o : Oper} {a : Act} {w w' : World} {K : Act → World → Prop} {Q} (h : (execOp a.eval o).run P w = .ok .skip w') (hk : K (a.put o.dst undef) w') : o.wp P a w K Q := by
  unfold Oper.wp; rw [h]; exact hk
theorem rel_putT {Γ nt a w g} {o : Oper} (hd : dOk nt o) (r : Rel Γ nt a w g) {v x} (h : XR w g v x) : Rel (ups Γ (putT o.dst x)) nt (a.put o.dst v) w g := by
  unfold dOk at hd
  cases ho : o.dst with
  | none => simpa [putT, ups, Act.put] using r
  | some d => rw [ho] at hd; exact r.putX hd h
theorem rel_putT' {Γ : Nm → C} {nt a w g} {o : Oper} {wr} (hd : dOk nt o) (r : Rel (ups Γ wr) nt a w g) {v x} (h : XR w g v x) : Rel (ups Γ (putT o.dst x ++ wr)) nt (a.put o.dst v) w g := by
  unfold dOk at hd
  cases ho : o.dst with
  | none => simpa [putT, ups, Act.put] using r
  | some d => rw [ho] at hd; exact r.putX hd h
/-- An operation that gives a value and turns nothing else. -/
theorem actOk_val {P nt i o Γ rd x} (hd : dOk nt o)
    (h : ∀ Δ a w g, (∀ n ∈ rd, Δ n = Γ n) → Rel Δ nt a w g → ∃ v, (execOp a.eval o).run P w = .ok (.value v) w ∧ XR w g v x) : ActOk P nt i o Γ rd (putT o.dst x) := by
  intro Δ a w g Q K hr hu r hk
  obtain ⟨v, hv, hx⟩ := h Δ a w g hr r
  exact wp_value hv (hk _ _ g (rel_putT hd r hx) (Fr.refl _ _))
/-- A test: both ways. -/
def vB (p : Prop) (K : Bool → Prop) : Prop := (p → K true) ∧ (¬ p → K false)
theorem vB_out {p : Prop} [Decidable p] {K : Bool → Prop} (h : vB p K) : K (decide p) := by
  by_cases hp : p
  · simpa [hp] using h.1 hp
  · simpa [hp] using h.2 hp
/-! ### arithmetic and tests on scalars -/
def bitI (op : BinOp) (k : IntKind) (x y : Int) : Int :=
  let a := BitVec.ofInt k.bits x
  let b := BitVec.ofInt k.bits y
  match op with
  | .and => k.wrap (a &&& b).toNat
  | .or => k.wrap (a ||| b).toNat
  | .xor => k.wrap (a ^^^ b).toNat
  | _ => k.wrap (a &&& ~~~b).toNat
def vInt (op : BinOp) (k k' : IntKind) (a b : Int) (K : Value → Prop) : Prop :=
  match op with
  | .add => k = k' ∧ K (.int k (k.wrap (a + b)))
  | .sub => k = k' ∧ K (.int k (k.wrap (a - b)))
  | .mul => k = k' ∧ K (.int k (k.wrap (a * b)))
  | .quo => k = k' ∧ b ≠ 0 ∧ K (.int k (k.wrap (a.tdiv b)))
  | .rem => k = k' ∧ b ≠ 0 ∧ K (.int k (a.tmod b))
  | .and => k = k' ∧ K (.int k (bitI .and k a b))
  | .or => k = k' ∧ K (.int k (bitI .or k a b))
  | .xor => k = k' ∧ K (.int k (bitI .xor k a b))
  | .andNot => k = k' ∧ K (.int k (bitI .andNot k a b))
  | .shl => 0 ≤ b ∧ K (.int k (k.wrap (a * 2 ^ min b.toNat k.bits)))
  | .shr => 0 ≤ b ∧ K (.int k (a.fdiv (2 ^ min b.toNat k.bits)))
  | .eql => k = k' ∧ vB (a = b) fun t => K (.bool t)
  | .neq => k = k' ∧ vB (a = b) fun t => K (.bool !t)
  | .lss => k = k' ∧ vB (a < b) fun t => K (.bool t)
  | .leq => k = k' ∧ vB (a ≤ b) fun t => K (.bool t)
  | .gtr => k = k' ∧ vB (a > b) fun t => K (.bool t)
  | .geq => k = k' ∧ vB (a ≥ b) fun t => K (.bool t)
theorem beqd {α : Type} [BEq α] [LawfulBEq α] [DecidableEq α] (a b : α) : (a == b) = decide (a = b) := by
  by_cases h : a = b
  · subst h; simp
  · simp [h]
theorem run_int {P : Program} {op k k' a b K} (h : vInt op k k' a b K) :
    ∃ v, simple v = true ∧ K v ∧ ∀ (xt : TypeId) (x y : Operand) (w : World), (do eqGuard op xt x y (.int k a) (.int k' b); binOp op xt (.int k a) (.int k' b) : Sem Value).run P w = .ok v w := by
  cases op <;> simp only [vInt] at h
  case eql => obtain ⟨rfl, h⟩ := h; exact ⟨.bool (decide (a = b)), rfl, vB_out h, fun xt x y w => by simp [eqGuard, binOp, Op.intCmp, go_sem, beqd]⟩
  case neq => obtain ⟨rfl, h⟩ := h; exact ⟨.bool (!decide (a = b)), rfl, vB_out h, fun xt x y w => by simp [eqGuard, binOp, Op.intCmp, go_sem, bne, beqd]⟩
  case lss => obtain ⟨rfl, h⟩ := h; exact ⟨_, rfl, vB_out h, fun xt x y w => by simp [eqGuard, binOp, Op.intCmp, go_sem]⟩
  case leq => obtain ⟨rfl, h⟩ := h; exact ⟨_, rfl, vB_out h, fun xt x y w => by simp [eqGuard, binOp, Op.intCmp, go_sem]⟩
  case gtr => obtain ⟨rfl, h⟩ := h; exact ⟨_, rfl, vB_out h, fun xt x y w => by simp [eqGuard, binOp, Op.intCmp, go_sem]⟩
  case geq => obtain ⟨rfl, h⟩ := h; exact ⟨_, rfl, vB_out h, fun xt x y w => by simp [eqGuard, binOp, Op.intCmp, go_sem]⟩
  case quo => obtain ⟨rfl, hb, h⟩ := h; exact ⟨_, rfl, h, fun xt x y w => by simp [eqGuard, binOp, Op.intDiv, hb, go_sem]⟩
  case rem => obtain ⟨rfl, hb, h⟩ := h; exact ⟨_, rfl, h, fun xt x y w => by simp [eqGuard, binOp, Op.intDiv, hb, go_sem]⟩
  case shl => obtain ⟨hb, h⟩ := h; exact ⟨_, rfl, h, fun xt x y w => by simp [eqGuard, binOp, Op.shift, Int.not_lt.2 hb, go_sem]⟩
  case shr => obtain ⟨hb, h⟩ := h; exact ⟨_, rfl, h, fun xt x y w => by simp [eqGuard, binOp, Op.shift, Int.not_lt.2 hb, go_sem]⟩
  case and => obtain ⟨rfl, h⟩ := h; exact ⟨.int k (bitI .and k a b), rfl, h, fun xt x y w => by cases k <;> rfl⟩
  case or => obtain ⟨rfl, h⟩ := h; exact ⟨.int k (bitI .or k a b), rfl, h, fun xt x y w => by cases k <;> rfl⟩
  case xor => obtain ⟨rfl, h⟩ := h; exact ⟨.int k (bitI .xor k a b), rfl, h, fun xt x y w => by cases k <;> rfl⟩
  case andNot => obtain ⟨rfl, h⟩ := h; exact ⟨.int k (bitI .andNot k a b), rfl, h, fun xt x y w => by cases k <;> rfl⟩
  all_goals (obtain ⟨rfl, h⟩ := h; exact ⟨_, rfl, h, fun xt x y w => by simp [eqGuard, binOp, Op.intArith, go_sem]⟩)
def vStr (op : BinOp) (a b : ByteArray) (K : Value → Prop) : Prop :=
  match op with
  | .add => ((a.size + b.size : Nat) : Int) ≤ 9223372036854775807 ∧ K (.string (a ++ b))
  | .eql => vB (a.toList = b.toList) fun t => K (.bool t)
  | .neq => vB (a.toList = b.toList) fun t => K (.bool !t)
  | .lss => vB (Op.bytesLess a.toList b.toList = true) fun t => K (.bool t)
  | _ => False
theorem run_str {P : Program} {op a b K} (h : vStr op a b K) :
    ∃ v, simple v = true ∧ K v ∧ ∀ (xt : TypeId) (x y : Operand) (w : World), (do eqGuard op xt x y (.string a) (.string b); binOp op xt (.string a) (.string b) : Sem Value).run P w = .ok v w := by
  cases op <;> simp only [vStr] at h
  case add => obtain ⟨hb, h⟩ := h; exact ⟨_, rfl, h, fun xt x y w => by simp [eqGuard, binOp, Op.stringOp, go_sem]; omega⟩
  case eql => exact ⟨.bool (decide (a.toList = b.toList)), rfl, vB_out h, fun xt x y w => by simp [eqGuard, binOp, Op.stringOp, go_sem, beqd]⟩
  case neq => exact ⟨.bool (!decide (a.toList = b.toList)), rfl, by have := vB_out h; simpa using this, fun xt x y w => by simp [eqGuard, binOp, Op.stringOp, go_sem, beqd]⟩
  case lss => exact ⟨.bool (Op.bytesLess a.toList b.toList), rfl, by simpa using vB_out h, fun xt x y w => by simp [eqGuard, binOp, Op.stringOp, go_sem]⟩
  all_goals exact h.elim
end Go.Proofs.YtdpflafjfkooeaaGreatDoorG
