/- H2: what came in, by value: from types to numbers, lists and structs. -/
import Derived.Test.YtaleiogdokdplaaGreatDoorH1
import Derived.Below
namespace Go.Proofs.YtaleiogdokdplaaGreatDoorG
open Go Go.RowKit Go.Proofs.YtaleiogdokdplaaGreatDoor
set_option linter.unusedVariables false
set_option linter.unusedSimpArgs false

theorem Typ.int' {T n t xs k s b z} (h : Typ T n t xs) (ht : T t = some ⟨.int k, s, b, z⟩) : ∃ m, xs = [.raw (.int k m)] ∧ k.min ≤ m ∧ m ≤ k.max := by
  cases h with
  | int _ k' _ _ _ m h hw =>
    rw [ht] at h
    simp only [Option.some.injEq, TI.mk.injEq, TK.int.injEq] at h
    obtain ⟨rfl, _⟩ := h
    exact ⟨m, rfl, by simpa [Lit.wf] using hw⟩
  | _ => simp_all
theorem Typ.bool' {T n t xs s b z} (h : Typ T n t xs) (ht : T t = some ⟨.bool, s, b, z⟩) : ∃ x, xs = [.raw (.bool x)] := by
  cases h <;> simp_all
theorem Typ.str' {T n t xs s b z} (h : Typ T n t xs) (ht : T t = some ⟨.str, s, b, z⟩) : ∃ x : ByteArray, xs = [.raw (.string x)] ∧ x.size ≤ n := by
  cases h <;> simp_all
theorem Typ.sl' {T n t xs e s b z ei} (h : Typ T n t xs) (ht : T t = some ⟨.slice e, s, b, z⟩) (hi : T e = some ei) : ∃ xss : List (List SV), xs = [.sl ei.size xss.flatten] ∧ xss.length ≤ n ∧ ∀ ys ∈ xss, Typ T n e ys := by
  cases h with
  | sl _ e' _ _ _ ei' xss h hi' hl hx hs =>
    rw [ht] at h
    simp only [Option.some.injEq, TI.mk.injEq, TK.slice.injEq] at h
    obtain ⟨rfl, _⟩ := h
    rw [hi] at hi'
    cases hi'
    exact ⟨xss, rfl, hl, hx⟩
  | _ => simp_all
theorem Typ.struct' {T n t xs fs s b z} (h : Typ T n t xs) (ht : T t = some ⟨.struct fs, s, b, z⟩) : ∃ xss : List (List SV), xs = xss.flatten ∧ All2 (fun (f : Nat × Nat) ys => Typ T n f.1 ys) fs xss := by
  cases h with
  | struct _ fs' _ _ _ xss h hl hx =>
    rw [ht] at h
    simp only [Option.some.injEq, TI.mk.injEq, TK.struct.injEq] at h
    obtain ⟨rfl, _⟩ := h
    exact ⟨xss, rfl, hl.symm, hx⟩
  | _ => simp_all
theorem Typ.arr' {T n t xs m e s b z} (h : Typ T n t xs) (ht : T t = some ⟨.arr m e, s, b, z⟩) : ∃ xss : List (List SV), xs = xss.flatten ∧ xss.length = m ∧ ∀ ys ∈ xss, Typ T n e ys := by
  cases h with
  | arr _ m' e' _ _ _ xss h hl hx =>
    rw [ht] at h
    simp only [Option.some.injEq, TI.mk.injEq, TK.arr.injEq] at h
    obtain ⟨⟨rfl, rfl⟩, _⟩ := h
    exact ⟨xss, rfl, hl, hx⟩
  | _ => simp_all
theorem all2_c1 {α β : Type} {R : α → β → Prop} {u : α} {us : List α} {xs : List β} (h : All2 R (u :: us) xs) : ∃ x xs', xs = x :: xs' ∧ R u x ∧ All2 R us xs' := by
  cases xs with
  | nil => have := h.1; simp at this
  | cons x xs => exact ⟨x, xs, rfl, h.head, h.tail⟩
theorem all2_n {α β : Type} {R : α → β → Prop} {xs : List β} (h : All2 R ([] : List α) xs) : xs = [] := by
  have := h.1; exact List.eq_nil_of_length_eq_zero (by simpa using this.symm)
/-- One by one. -/
theorem choose_l {α β : Type} {p : β → Prop} {f : β → α} : ∀ {xs : List α}, (∀ x ∈ xs, ∃ y, x = f y ∧ p y) → ∃ ys : List β, xs = ys.map f ∧ ∀ y ∈ ys, p y
  | [], _ => ⟨[], rfl, fun y hy => by cases hy⟩
  | x :: xs, h => by
    obtain ⟨y, rfl, hy⟩ := h x (by simp)
    obtain ⟨ys, rfl, hys⟩ := choose_l (fun x hx => h x (by simp [hx]) : ∀ x ∈ xs, ∃ y, x = f y ∧ p y)
    exact ⟨y :: ys, rfl, fun z hz => by rcases List.mem_cons.1 hz with rfl | hz; exact hy; exact hys z hz⟩
/-- A list of whole numbers. -/
theorem Typ.ints {T n t xs e k s b z s' b' z'} (h : Typ T n t xs) (ht : T t = some ⟨.slice e, s, b, z⟩) (hi : T e = some ⟨.int k, s', b', z'⟩) : ∃ l : List Int, xs = [.sl s' (l.map fun n => .raw (.int k n))] ∧ (∀ m ∈ l, k.min ≤ m ∧ m ≤ k.max) ∧ l.length ≤ n := by
  obtain ⟨xss, rfl, hl, hx⟩ := h.sl' ht hi
  obtain ⟨l, rfl, hp⟩ := choose_l (p := fun m => k.min ≤ m ∧ m ≤ k.max) (f := fun m => [SV.raw (.int k m)]) fun ys hys => (hx ys hys).int' hi
  refine ⟨l, ?_, hp, by simpa using hl⟩
  congr 2
  clear hx hl hp h
  induction l with
  | nil => rfl
  | cons m l ih => simp only [List.map_cons, List.flatten_cons, ih]; rfl
theorem flat_map {α : Type} {f : α → List SV} (l : List α) : (l.map f).flatten = l.flatMap f := by rw [List.flatMap_def]

/-! ### parameters -/
section
variable {H : Type} {enc : TypeId × Value → H} {P : Program} {T : Tab} (hT : Tok P T) {W : World} {base : Nat} {sp : Nat → Bool} {held : Bool}
def gI (W : World) : Gh := { o := oI W, hd := fun _ => undef, bk := fun _ => 0 }
include hT
theorem arg_one {v : Value} {d : DataW H} {p : List MemPlace} {t m n : Nat} (hok : okT T m t = true) (h : DataW.Trod enc P W base sp held t v d p) (hn : Rows.uptoBulk d ≤ n) (hc : v.cells.toList = [v]) : ∃ x, Typ T n t [x] ∧ XR W (gI W) v (.p (.one (.v x))) := by
  obtain ⟨fuel, hf⟩ := h
  rw [hc] at hf
  obtain ⟨xs, h1, h2⟩ := trod_typ hT m t hok fuel _ d p hf
  obtain ⟨x, xs', rfl, hx, hn'⟩ := all2_c1 h1
  have := all2_n hn'
  subst this
  exact ⟨x, h2.mono hn, hx⟩
theorem arg_agg {cs : Array Value} {d : DataW H} {p : List MemPlace} {t m n : Nat} (hok : okT T m t = true) (h : DataW.Trod enc P W base sp held t (.agg cs) d p) (hn : Rows.uptoBulk d ≤ n) : ∃ xs, Typ T n t xs ∧ XR W (gI W) (.agg cs) (.p (.agg (xs.map .v))) := by
  obtain ⟨fuel, hf⟩ := h
  obtain ⟨xs, h1, h2⟩ := trod_typ hT m t hok fuel _ d p hf
  exact ⟨xs, h2.mono hn, cs, rfl, h1.svTv⟩
end
theorem gI_other (W : World) (b : Nat) : (gI W).o b = .other ∨ (gI W).o b = .imm := by simp only [gI, oI]; split <;> simp
theorem gI_lt (W : World) (b : Nat) (h : (gI W).o b ≠ .other) : b < W.heap.size := by simp only [gI, oI] at h; split at h <;> simp_all
theorem Fr.below {W W' : World} {g' : Gh} (h : Fr W W' (gI W).o g'.o) : Below W.heap.size W W' := ⟨h.os, h.tape, h.output, h.size, fun b hb => (h.keep b hb (gI_other W b)).1⟩
theorem bulk1 {H : Type} {ds : List (DataW H)} {d : DataW H} (hk : Rows.uptoSmall H ds = true) (h : d ∈ ds) : Rows.uptoBulk d ≤ 1048576 := Nat.le_trans (part_le h) (of_decide_eq_true hk)
/-- A law that answers true, called at what came in. -/
theorem law_calls {P : Program} {f : Nat} {xs : List X} {fr : Bool} {rows : Rows} {W : World} {vs : List Value} (h : CallOk P f xs (bo true) rows fr) (ha : All2 (XR W (gI W)) vs xs) : Calls P f vs.toArray W fun e W' => e = .returned (.bool true) ∧ Below W.heap.size W W' :=
  (h.calls W vs (gI W) (gI_other W) (gI_lt W) ha).mono fun e W' hh => by
    obtain ⟨v, g', rfl, hf, _, hx, _⟩ := hh
    have := (raw_of hx).1
    exact ⟨by rw [this], hf.below⟩
end Go.Proofs.YtaleiogdokdplaaGreatDoorG
