/- G2: what operations do to states by value: the plain ones (values, loads, addresses). -/
import Derived.Test.YtdpflafjfkooeaaDoorG1
import Derived.RegionTactic
import Derived.WalkKit
namespace Go.Proofs.YtdpflafjfkooeaaDoorG
open Go Go.RowKit
set_option linter.unusedVariables false
set_option linter.unusedSimpArgs false

/-! ### types, as far as they are needed -/
inductive TK where
  | int (k : IntKind) | bool | str | slice (e : Nat) | struct (fs : List (Nat × Nat)) | arr (n e : Nat) | ptr (e : Nat) | iface | other
  deriving Inhabited
inductive ZC where
  | raw (v : Value)
  | nil (ty e : Nat)
def ZC.val : ZC → Value
  | .raw v => v
  | .nil _ _ => .slice none 0 0
def ZC.ok : ZC → Bool
  | .raw v => simple v
  | .nil _ e => decide (0 < e)
structure TI where
  k : TK
  size : Nat
  bytes : Nat
  zero : List ZC
def dK : TypeDesc → TK
  | .int k => .int k | .bool => .bool | .string => .str | .slice e => .slice e | .array n e => .arr n e | .pointer e => .ptr e
  | .struct fs => .struct (fs.toList.map fun f => (f.type, f.offset))
  | .interface _ => .iface
  | _ => .other
def TK.agg : TK → Bool
  | .struct _ | .arr _ _ => true
  | _ => false
structure TIok (P : Program) (t : Nat) (i : TI) : Prop where
  und : (P.underlying t).map dK = some i.k
  info : (P.info? t).map (fun j => (j.size, j.bytes, j.zero.map fun z => z.cells.toList)) = some (i.size, i.bytes, some (i.zero.map ZC.val))
  zok : i.zero.all ZC.ok = true
abbrev Tab := Nat → Option TI
def Tok (P : Program) (T : Tab) : Prop := ∀ t i, T t = some i → TIok P t i

theorem TIok.und' {P t i} (h : TIok P t i) : ∃ d, P.underlying t = some d ∧ dK d = i.k := by
  have := h.und
  cases hd : P.underlying t with
  | none => simp [hd] at this
  | some d => simp [hd] at this; exact ⟨d, rfl, this⟩
theorem TIok.info' {P t i} (h : TIok P t i) : ∃ j z, P.info? t = some j ∧ j.size = i.size ∧ j.bytes = i.bytes ∧ j.zero = some z ∧ z.cells.toList = i.zero.map ZC.val := by
  have := h.info
  cases hd : P.info? t with
  | none => simp [hd] at this
  | some j =>
    simp only [hd, Option.map_some, Option.some.injEq, Prod.mk.injEq] at this
    obtain ⟨h1, h2, h3⟩ := this
    cases hz : j.zero with
    | none => simp [hz] at h3
    | some z => simp [hz] at h3; exact ⟨j, z, rfl, h1, h2, hz, h3⟩
theorem TIok.slice {P t i e} (h : TIok P t i) (hk : i.k = .slice e) : P.underlying t = some (.slice e) := by
  obtain ⟨d, hd, he⟩ := h.und'
  rw [hk] at he
  cases d <;> simp [dK] at he
  rw [hd, he]
theorem TIok.str {P t i} (h : TIok P t i) (hk : i.k = .str) : P.underlying t = some .string := by
  obtain ⟨d, hd, he⟩ := h.und'
  rw [hk] at he
  cases d <;> simp [dK] at he
  exact hd

/-! ### operands -/
def deadX : X := .p (.one .dead)
def rawX (v : Value) : X := .p (.one (.v (.raw v)))
def opX (Γ : Nm → C) : Operand → X
  | .tmp t => match Γ (.t t) with | .t x => x | _ => deadX
  | .const v => match v with
    | .slice none 0 0 => .p (.one (.nl 0 0))
    | v => if simple v then rawX v else deadX
  | .func f => rawX (.func (.func f) #[] #[])
  | .global _ => deadX
def opR : Operand → List Nm
  | .tmp t => [.t t]
  | _ => []
theorem dead_rel {w g v} : XR w g v deadX := trivial
theorem opX_rel {Γ nt a w g} (r : Rel Γ nt a w g) (x : Operand) : XR w g (a.eval x) (opX Γ x) := by
  cases x with
  | tmp t =>
    simp only [opX]
    cases h : Γ (.t t) <;> first | exact dead_rel | exact r.tmp h
  | const v =>
    simp only [opX, Act.eval]
    split
    · rfl
    · split
      · rename_i hs; exact .raw _ hs
      · exact dead_rel
  | func f => exact .raw _ rfl
  | global g => exact dead_rel
theorem opX_congr {Γ Δ : Nm → C} {x : Operand} (h : ∀ n ∈ opR x, Δ n = Γ n) : opX Δ x = opX Γ x := by
  cases x with
  | tmp t => simp only [opX]; rw [h (.t t) (by simp [opR])]
  | _ => rfl
theorem raw_of {w g v u} (r : XR w g v (rawX u)) : v = u ∧ simple u = true := by
  cases r with
  | raw _ h => exact ⟨rfl, h⟩

/-! ### actions -/
def th (i k : Nat) : Nat := 1000000 + 100 * i + k
def isTh (i k : Nat) : Prop := 1000000 + 100 * i ≤ k ∧ k < 1000000 + 100 * i + 100
theorem isTh_th {i k : Nat} (h : k < 100) : isTh i (th i k) := by unfold isTh th; omega

def ActOk (P : Program) (nt i : Nat) (o : Oper) (Γ : Nm → C) (rd : List Nm) (wr : List (Nm × C)) : Prop :=
  ∀ (Δ : Nm → C) (a : Act) (w : World) (g : Gh) (Q : Exit → Act → World → Prop) (K : Act → World → Prop), (∀ n ∈ rd, Δ n = Γ n) → (∀ k, isTh i k → Unm Δ k) → Rel Δ nt a w g →
    (∀ a' w' g', Rel (ups Δ wr) nt a' w' g' → Fr w w' g.o g'.o → K a' w') → o.wp P a w K Q

/-- There is an action that the rest goes on from. -/
def Good (P : Program) (nt i : Nat) (o : Oper) (Γ : Nm → C) (K : List Nm → List (Nm × C) → Prop) : Prop :=
  ∃ rd wr, ActOk P nt i o Γ rd wr ∧ K rd wr

def putT (d : Option Nat) (x : X) : List (Nm × C) := match d with | some d => [(.t d, .t x)] | none => []
def dOk (nt : Nat) (o : Oper) : Prop := match o.dst with | some d => d < nt | none => True

theorem wp_value {P : Program} {o : Oper} {a : Act} {w w' : World} {v : Value} {K : Act → World → Prop} {Q} (h : (execOp a.eval o).run P w = .ok (.value v) w') (hk : K (a.put o.dst v) w') : o.wp P a w K Q := by
  unfold Oper.wp; rw [h]; exact hk
theorem wp_skip' {P : Program} {o : Oper} {a : Act} {w w' : World} {K : Act → World → Prop} {Q} (h : (execOp a.eval o).run P w = .ok .skip w') (hk : K (a.put o.dst undef) w') : o.wp P a w K Q := by
  unfold Oper.wp; rw [h]; exact hk
theorem rel_putT {Γ nt a w g} {o : Oper} (hd : dOk nt o) (r : Rel Γ nt a w g) {v x} (h : XR w g v x) : Rel (ups Γ (putT o.dst x)) nt (a.put o.dst v) w g := by
  unfold dOk at hd
  cases ho : o.dst with
  | none => simpa [putT, ups, Act.put] using r
  | some d => rw [ho] at hd; exact r.putX hd h
theorem rel_putT' {Γ : Nm → C} {nt a w g} {o : Oper} {wr} (hd : dOk nt o) (r : Rel (ups Γ wr) nt a w g) {v x} (h : XR w g v x) : Rel (ups Γ (putT o.dst x ++ wr)) nt (a.put o.dst v) w g := by
  unfold dOk at hd
  cases ho : o.dst with
  | none => simpa [putT, ups, Act.put] using r
  | some d => rw [ho] at hd; exact r.putX hd h

/-- An operation that gives a value and turns nothing else. -/
theorem actOk_val {P nt i o Γ rd x} (hd : dOk nt o)
    (h : ∀ Δ a w g, (∀ n ∈ rd, Δ n = Γ n) → Rel Δ nt a w g → ∃ v, (execOp a.eval o).run P w = .ok (.value v) w ∧ XR w g v x) : ActOk P nt i o Γ rd (putT o.dst x) := by
  intro Δ a w g Q K hr hu r hk
  obtain ⟨v, hv, hx⟩ := h Δ a w g hr r
  exact wp_value hv (hk _ _ g (rel_putT hd r hx) (Fr.refl _ _))

/-- A test: both ways. -/
def vB (p : Prop) (K : Bool → Prop) : Prop := (p → K true) ∧ (¬ p → K false)
theorem vB_out {p : Prop} [Decidable p] {K : Bool → Prop} (h : vB p K) : K (decide p) := by
  by_cases hp : p
  · simpa [hp] using h.1 hp
  · simpa [hp] using h.2 hp

/-! ### arithmetic and tests on scalars -/
def bitI (op : BinOp) (k : IntKind) (x y : Int) : Int :=
  let a := BitVec.ofInt k.bits x
  let b := BitVec.ofInt k.bits y
  match op with
  | .and => k.wrap (a &&& b).toNat
  | .or => k.wrap (a ||| b).toNat
  | .xor => k.wrap (a ^^^ b).toNat
  | _ => k.wrap (a &&& ~~~b).toNat
def vInt (op : BinOp) (k k' : IntKind) (a b : Int) (K : Value → Prop) : Prop :=
  match op with
  | .add => k = k' ∧ K (.int k (k.wrap (a + b)))
  | .sub => k = k' ∧ K (.int k (k.wrap (a - b)))
  | .mul => k = k' ∧ K (.int k (k.wrap (a * b)))
  | .quo => k = k' ∧ b ≠ 0 ∧ K (.int k (k.wrap (a.tdiv b)))
  | .rem => k = k' ∧ b ≠ 0 ∧ K (.int k (a.tmod b))
  | .and => k = k' ∧ K (.int k (bitI .and k a b))
  | .or => k = k' ∧ K (.int k (bitI .or k a b))
  | .xor => k = k' ∧ K (.int k (bitI .xor k a b))
  | .andNot => k = k' ∧ K (.int k (bitI .andNot k a b))
  | .shl => 0 ≤ b ∧ K (.int k (k.wrap (a * 2 ^ min b.toNat k.bits)))
  | .shr => 0 ≤ b ∧ K (.int k (a.fdiv (2 ^ min b.toNat k.bits)))
  | .eql => k = k' ∧ vB (a = b) fun t => K (.bool t)
  | .neq => k = k' ∧ vB (a = b) fun t => K (.bool !t)
  | .lss => k = k' ∧ vB (a < b) fun t => K (.bool t)
  | .leq => k = k' ∧ vB (a ≤ b) fun t => K (.bool t)
  | .gtr => k = k' ∧ vB (a > b) fun t => K (.bool t)
  | .geq => k = k' ∧ vB (a ≥ b) fun t => K (.bool t)
theorem beqd {α : Type} [BEq α] [LawfulBEq α] [DecidableEq α] (a b : α) : (a == b) = decide (a = b) := by
  by_cases h : a = b
  · subst h; simp
  · simp [h]
theorem run_int {P : Program} {op k k' a b K} (h : vInt op k k' a b K) :
    ∃ v, simple v = true ∧ K v ∧ ∀ (xt : TypeId) (x y : Operand) (w : World), (do eqGuard op xt x y (.int k a) (.int k' b); binOp op xt (.int k a) (.int k' b) : Sem Value).run P w = .ok v w := by
  cases op <;> simp only [vInt] at h
  case eql => obtain ⟨rfl, h⟩ := h; exact ⟨.bool (decide (a = b)), rfl, vB_out h, fun xt x y w => by simp [eqGuard, binOp, Op.intCmp, go_sem, beqd]⟩
  case neq => obtain ⟨rfl, h⟩ := h; exact ⟨.bool (!decide (a = b)), rfl, vB_out h, fun xt x y w => by simp [eqGuard, binOp, Op.intCmp, go_sem, bne, beqd]⟩
  case lss => obtain ⟨rfl, h⟩ := h; exact ⟨_, rfl, vB_out h, fun xt x y w => by simp [eqGuard, binOp, Op.intCmp, go_sem]⟩
  case leq => obtain ⟨rfl, h⟩ := h; exact ⟨_, rfl, vB_out h, fun xt x y w => by simp [eqGuard, binOp, Op.intCmp, go_sem]⟩
  case gtr => obtain ⟨rfl, h⟩ := h; exact ⟨_, rfl, vB_out h, fun xt x y w => by simp [eqGuard, binOp, Op.intCmp, go_sem]⟩
  case geq => obtain ⟨rfl, h⟩ := h; exact ⟨_, rfl, vB_out h, fun xt x y w => by simp [eqGuard, binOp, Op.intCmp, go_sem]⟩
  case quo => obtain ⟨rfl, hb, h⟩ := h; exact ⟨_, rfl, h, fun xt x y w => by simp [eqGuard, binOp, Op.intDiv, hb, go_sem]⟩
  case rem => obtain ⟨rfl, hb, h⟩ := h; exact ⟨_, rfl, h, fun xt x y w => by simp [eqGuard, binOp, Op.intDiv, hb, go_sem]⟩
  case shl => obtain ⟨hb, h⟩ := h; exact ⟨_, rfl, h, fun xt x y w => by simp [eqGuard, binOp, Op.shift, Int.not_lt.2 hb, go_sem]⟩
  case shr => obtain ⟨hb, h⟩ := h; exact ⟨_, rfl, h, fun xt x y w => by simp [eqGuard, binOp, Op.shift, Int.not_lt.2 hb, go_sem]⟩
  case and => obtain ⟨rfl, h⟩ := h; exact ⟨.int k (bitI .and k a b), rfl, h, fun xt x y w => by cases k <;> rfl⟩
  case or => obtain ⟨rfl, h⟩ := h; exact ⟨.int k (bitI .or k a b), rfl, h, fun xt x y w => by cases k <;> rfl⟩
  case xor => obtain ⟨rfl, h⟩ := h; exact ⟨.int k (bitI .xor k a b), rfl, h, fun xt x y w => by cases k <;> rfl⟩
  case andNot => obtain ⟨rfl, h⟩ := h; exact ⟨.int k (bitI .andNot k a b), rfl, h, fun xt x y w => by cases k <;> rfl⟩
  all_goals (obtain ⟨rfl, h⟩ := h; exact ⟨_, rfl, h, fun xt x y w => by simp [eqGuard, binOp, Op.intArith, go_sem]⟩)

def vStr (op : BinOp) (a b : ByteArray) (K : Value → Prop) : Prop :=
  match op with
  | .add => ((a.size + b.size : Nat) : Int) ≤ 9223372036854775807 ∧ K (.string (a ++ b))
  | .eql => vB (a.toList = b.toList) fun t => K (.bool t)
  | .neq => vB (a.toList = b.toList) fun t => K (.bool !t)
  | .lss => vB (Op.bytesLess a.toList b.toList = true) fun t => K (.bool t)
  | _ => False
theorem run_str {P : Program} {op a b K} (h : vStr op a b K) :
    ∃ v, simple v = true ∧ K v ∧ ∀ (xt : TypeId) (x y : Operand) (w : World), (do eqGuard op xt x y (.string a) (.string b); binOp op xt (.string a) (.string b) : Sem Value).run P w = .ok v w := by
  cases op <;> simp only [vStr] at h
  case add => obtain ⟨hb, h⟩ := h; exact ⟨_, rfl, h, fun xt x y w => by simp [eqGuard, binOp, Op.stringOp, go_sem]; omega⟩
  case eql => exact ⟨.bool (decide (a.toList = b.toList)), rfl, vB_out h, fun xt x y w => by simp [eqGuard, binOp, Op.stringOp, go_sem, beqd]⟩
  case neq => exact ⟨.bool (!decide (a.toList = b.toList)), rfl, by have := vB_out h; simpa using this, fun xt x y w => by simp [eqGuard, binOp, Op.stringOp, go_sem, beqd]⟩
  case lss => exact ⟨.bool (Op.bytesLess a.toList b.toList), rfl, by simpa using vB_out h, fun xt x y w => by simp [eqGuard, binOp, Op.stringOp, go_sem]⟩
  all_goals exact h.elim

end Go.Proofs.YtdpflafjfkooeaaDoorG
