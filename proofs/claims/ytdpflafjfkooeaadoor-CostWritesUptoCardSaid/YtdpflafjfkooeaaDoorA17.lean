import Derived.Test.YtdpflafjfkooeaaDoorA15
import Derived.Test.YtdpflafjfkooeaaDoorA16
namespace Go.Proofs.YtdpflafjfkooeaaDoorG
open Go Go.RowKit Go.Proofs
set_option linter.unusedSimpArgs false
set_option linter.unusedVariables false
theorem app_zero {s : St} {o : Opn} (h : (appF s o).2 = 0) : (effF s o).2 = 0 := by
  unfold appF at h
  split at h
  · exact absurd h (by assumption)
  · rename_i h1; exact Classical.not_not.1 h1
theorem app_ok {s : St} {o : Opn} (hs : s.ok) (ho : o.ok) (h : (appF s o).2 = 0) : (appF s o).1.ok := by
  have h0 := app_zero h
  have hI : effF s o = ((effF s o).1, 0) := by rw [← h0]
  obtain ⟨g1, g2, g3⟩ := eff_good hs ho hI
  have hz := right_zero (eff_zero hI)
  have hz2 := hz.2.1
  have hd : R32s ((effF s o).1.done s.text) := hs.run.done g2.rcame
  have hu : ∀ c ∈ s.undo ++ [(effF s o).1], c.ok := fun c hc => by
    rcases List.mem_append.1 hc with h1 | h1
    · exact hs.undo c h1
    · simp at h1; subst h1; exact g2
  unfold appF
  rw [if_neg (fun h => h h0)]
  split
  · exact ⟨by show ((effF s o).1.done s.text).length ≤ 100000; omega, hd, fun c hc => hs.undo c (List.mem_of_mem_take hc), fun c hc => by
      rcases List.mem_append.1 hc with h1 | h1
      · exact hs.redo c h1
      · simp at h1; subst h1; exact g2.inv, by simp; omega, by simp; omega⟩
  · split
    · exact ⟨by show ((effF s o).1.done s.text).length ≤ 100000; omega, hd, hu, fun c hc => hs.redo c (List.mem_of_mem_take hc), by simp; omega, by simp; omega⟩
    · refine ⟨by show ((effF s o).1.done s.text).length ≤ 100000; omega, hd, fun c hc => ?_, fun c hc => by simp at hc, ?_, by simp⟩
      · dsimp only at hc
        split at hc
        · exact hu c (List.mem_of_mem_drop hc)
        · exact hu c hc
      · show (if _ then _ else _ : List Ch).length ≤ 100000
        split <;> simp <;> omega
/-- Operations, one behind the other. -/
def ops (l : List Opn) : List SV := l.flatMap fun o => [.raw (.int .i64 o.kind), .raw (.int .i64 o.at_), .raw (.int .i64 o.to_), .sl 1 (rn o.text)]
def noOp : Opn := ⟨0, 0, 0, []⟩
theorem ops_cons (o : Opn) (l : List Opn) : ops (o :: l) = .raw (.int .i64 o.kind) :: .raw (.int .i64 o.at_) :: .raw (.int .i64 o.to_) :: .sl 1 (rn o.text) :: ops l := rfl
theorem ops_len (l : List Opn) : (ops l).length = 4 * l.length := by
  induction l with
  | nil => rfl
  | cons o l ih => rw [ops_cons]; simp only [List.length_cons, ih]; omega
theorem ops_cnt (l : List Opn) : cnt 4 (ops l) = l.length := by simp [cnt, ops_len]
theorem tv_op0 {l : List Opn} {k : Nat} (h : k < l.length) : (List.map TV.v (ops l)).getD (k * 4) .dead = .v (.raw (.int .i64 (l.getD k noOp).kind)) := by
  induction l generalizing k with
  | nil => simp at h
  | cons c l ih => cases k with
    | zero => rfl
    | succ k => simp only [List.length_cons] at h; have := ih (k := k) (by omega); simpa [ops_cons, Nat.succ_mul, List.getD] using this
theorem tv_op1 {l : List Opn} {k : Nat} (h : k < l.length) : (List.map TV.v (ops l)).getD (k * 4 + 1) .dead = .v (.raw (.int .i64 (l.getD k noOp).at_)) := by
  induction l generalizing k with
  | nil => simp at h
  | cons c l ih => cases k with
    | zero => rfl
    | succ k => simp only [List.length_cons] at h; have := ih (k := k) (by omega); simpa [ops_cons, Nat.succ_mul, List.getD, show k * 4 + 4 + 1 = k * 4 + 1 + 4 by omega] using this
theorem tv_op2 {l : List Opn} {k : Nat} (h : k < l.length) : (List.map TV.v (ops l)).getD (k * 4 + 2) .dead = .v (.raw (.int .i64 (l.getD k noOp).to_)) := by
  induction l generalizing k with
  | nil => simp at h
  | cons c l ih => cases k with
    | zero => rfl
    | succ k => simp only [List.length_cons] at h; have := ih (k := k) (by omega); simpa [ops_cons, Nat.succ_mul, List.getD, show k * 4 + 4 + 2 = k * 4 + 2 + 4 by omega] using this
theorem tv_op3 {l : List Opn} {k : Nat} (h : k < l.length) : (List.map TV.v (ops l)).getD (k * 4 + 3) .dead = .v (.sl 1 (rn (l.getD k noOp).text)) := by
  induction l generalizing k with
  | nil => simp at h
  | cons c l ih => cases k with
    | zero => rfl
    | succ k => simp only [List.length_cons] at h; have := ih (k := k) (by omega); simpa [ops_cons, Nat.succ_mul, List.getD, show k * 4 + 4 + 3 = k * 4 + 3 + 4 by omega] using this
def cutO (o : Opn) : Opn := ⟨o.kind, o.at_, o.to_, o.text.take 60⟩
theorem cutO_eq {o : Opn} (h : o.text.length ≤ 60) : cutO o = o := by
  unfold cutO; rw [List.take_of_length_le h]
def stepW (s : St) (o : Opn) : St := if (appF s (cutO o)).2 = 0 then (appF s (cutO o)).1 else s
/-- The state behind the first operations. -/
def wrN (l : List Opn) : Nat → St
  | 0 => ⟨[], [], []⟩
  | k + 1 => stepW (wrN l k) (l.getD k noOp)
theorem noR : R32s [] := fun x hx => by simp at hx
theorem cutO_ok {o : Opn} (h : R32s o.text) : (cutO o).ok := ⟨by show (o.text.take 60).length ≤ 100000; rw [List.length_take]; omega, R32s.take h 60⟩
theorem wrN_ok {l : List Opn} (h : ∀ o ∈ l, R32s o.text) : ∀ k, k ≤ l.length → (wrN l k).ok
  | 0, _ => ⟨by simp [wrN], noR, by simp [wrN], by simp [wrN], by simp [wrN], by simp [wrN]⟩
  | k + 1, hk => by
    have ih := wrN_ok h k (by omega)
    show (stepW _ _).ok
    unfold stepW
    split
    · refine app_ok ih (cutO_ok ?_) (by assumption)
      have : l.getD k noOp ∈ l := by simp [List.getD, List.getElem?_eq_getElem (show k < l.length by omega)]
      exact h _ this
    · exact ih
end Go.Proofs.YtdpflafjfkooeaaDoorG
