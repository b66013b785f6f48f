/- H22: what came in: texts, changes, states, operations. -/
import Derived.Test.YtmcicjhmgfpihaaH2
import Derived.Test.YtmcicjhmgfpihaaA25
import Derived.Test.YtmcicjhmgfpihaaA29
import Derived.Test.YtmcicjhmgfpihaaA27
namespace Go.Proofs.YtmcicjhmgfpihaaG
open Go Go.RowKit Go.Proofs Go.Proofs.Ytmcicjhmgfpihaa
set_option linter.unusedVariables false
set_option linter.unusedSimpArgs false
def Opn.cells (o : Opn) : List SV := [.raw (.int .i64 o.kind), .raw (.int .i64 o.at_), .raw (.int .i64 o.to_), .sl 1 (rn o.text)]
def Ch.cells (c : Ch) : List SV := [.raw (.int .i64 c.at_), .sl 1 (rn c.gone), .sl 1 (rn c.came)]
def St.cells (s : St) : List SV := [.sl 1 (rn s.text), .sl 3 (chs s.undo), .sl 3 (chs s.redo)]
theorem r32 {m : Int} (h : IntKind.i32.min ≤ m ∧ m ≤ IntKind.i32.max) : R32 m := by
  have h1 : IntKind.i32.min = -2147483648 := by decide
  have h2 : IntKind.i32.max = 2147483647 := by decide
  rw [h1, h2] at h; exact h
theorem typ_runes {n : Nat} {xs : List SV} (h : Typ T n 22 xs) : ∃ l : List Int, xs = [.sl 1 (rn l)] ∧ R32s l ∧ l.length ≤ n := by
  obtain ⟨l, rfl, h1, h2⟩ := h.ints (by rfl) (by rfl)
  exact ⟨l, rfl, fun m hm => r32 (h1 m hm), h2⟩
theorem typ_change {n : Nat} {xs : List SV} (h : Typ T n 42 xs) : ∃ c : Ch, xs = c.cells ∧ c.upto n := by
  obtain ⟨xss, rfl, ha⟩ := h.struct' (by rfl)
  obtain ⟨x0, r0, rfl, h0, ha⟩ := all2_c1 ha
  obtain ⟨x1, r1, rfl, h1, ha⟩ := all2_c1 ha
  obtain ⟨x2, r2, rfl, h2, ha⟩ := all2_c1 ha
  have := all2_n ha
  subst this
  obtain ⟨m, rfl, _⟩ := h0.int' (by rfl)
  obtain ⟨l1, rfl, q1, q2⟩ := typ_runes h1
  obtain ⟨l2, rfl, q3, q4⟩ := typ_runes h2
  exact ⟨⟨m, l1, l2⟩, rfl, q2, q4, q1, q3⟩
theorem typ_op {n : Nat} {xs : List SV} (h : Typ T n 27 xs) : ∃ o : Opn, xs = o.cells ∧ o.upto n := by
  obtain ⟨xss, rfl, ha⟩ := h.struct' (by rfl)
  obtain ⟨x0, r0, rfl, h0, ha⟩ := all2_c1 ha
  obtain ⟨x1, r1, rfl, h1, ha⟩ := all2_c1 ha
  obtain ⟨x2, r2, rfl, h2, ha⟩ := all2_c1 ha
  obtain ⟨x3, r3, rfl, h3, ha⟩ := all2_c1 ha
  have := all2_n ha
  subst this
  obtain ⟨m0, rfl, _⟩ := h0.int' (by rfl)
  obtain ⟨m1, rfl, _⟩ := h1.int' (by rfl)
  obtain ⟨m2, rfl, _⟩ := h2.int' (by rfl)
  obtain ⟨l, rfl, q1, q2⟩ := typ_runes h3
  exact ⟨⟨m0, m1, m2, l⟩, rfl, q2, q1⟩
theorem typ_changes {n : Nat} {xs : List SV} (h : Typ T n 23 xs) : ∃ l : List Ch, xs = [.sl 3 (chs l)] ∧ l.length ≤ n ∧ ∀ c ∈ l, c.upto n := by
  obtain ⟨xss, rfl, hl, hx⟩ := h.sl' (by rfl) (by rfl)
  obtain ⟨l, rfl, hp⟩ := choose_l (p := fun c => Ch.upto n c) (f := Ch.cells) fun ys hys => typ_change (hx ys hys)
  exact ⟨l, by rw [flat_map]; rfl, by simpa using hl, hp⟩
theorem typ_ops {n : Nat} {xs : List SV} (h : Typ T n 50 xs) : ∃ l : List Opn, xs = [.sl 4 (ops l)] ∧ l.length ≤ n ∧ ∀ o ∈ l, o.upto n := by
  obtain ⟨xss, rfl, hl, hx⟩ := h.sl' (by rfl) (by rfl)
  obtain ⟨l, rfl, hp⟩ := choose_l (p := fun c => Opn.upto n c) (f := Opn.cells) fun ys hys => typ_op (hx ys hys)
  exact ⟨l, by rw [flat_map]; rfl, by simpa using hl, hp⟩
theorem typ_state {n : Nat} {xs : List SV} (h : Typ T n 25 xs) : ∃ s : St, xs = s.cells ∧ s.upto n := by
  obtain ⟨xss, rfl, ha⟩ := h.struct' (by rfl)
  obtain ⟨x0, r0, rfl, h0, ha⟩ := all2_c1 ha
  obtain ⟨x1, r1, rfl, h1, ha⟩ := all2_c1 ha
  obtain ⟨x2, r2, rfl, h2, ha⟩ := all2_c1 ha
  have := all2_n ha
  subst this
  obtain ⟨l0, rfl, q1, q2⟩ := typ_runes h0
  obtain ⟨l1, rfl, q3, q4⟩ := typ_changes h1
  obtain ⟨l2, rfl, q5, q6⟩ := typ_changes h2
  exact ⟨⟨l0, l1, l2⟩, rfl, q2, q1, q4, q6, q3, q5⟩
theorem Opn.in' {n : Nat} {x : SV} (h : Typ T n 50 [x]) : ∃ l : List Opn, x = .sl 4 (ops l) ∧ l.length ≤ n ∧ ∀ o ∈ l, o.upto n := by
  obtain ⟨l, h1, h2⟩ := typ_ops h
  simp only [List.cons.injEq, and_true] at h1
  exact ⟨l, h1, h2⟩
end Go.Proofs.YtmcicjhmgfpihaaG
