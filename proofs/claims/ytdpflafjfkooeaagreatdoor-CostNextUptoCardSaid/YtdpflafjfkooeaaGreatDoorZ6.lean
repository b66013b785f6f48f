/- YtdpflafjfkooeaaGreatDoorZ6: a part of the proof, joined of its texts. -/
import Derived.Test.YtdpflafjfkooeaaGreatDoorZ5
/- G9b: own variables that are lent to a call, and come back. -/
namespace Go.Proofs.YtdpflafjfkooeaaGreatDoorG
open Go Go.RowKit
set_option linter.unusedVariables false
set_option linter.unusedSimpArgs false
/-! ### less is known -/
theorem Rel.sub {Γ Γ' nt a w g} (r : Rel Γ nt a w g) (h : ∀ n, Γ' n = Γ n ∨ Γ' n = .none) : Rel Γ' nt a w g :=
  ⟨r.size, r.df, r.tags, r.gl, fun n => by
    rcases h n with e | e
    · rw [e]; exact r.cr n
    · rw [e]; cases n <;> trivial⟩
/-! ### homes get new numbers -/
def inv (m : List (Nat × Nat)) (k' : Nat) : Option Nat := (m.find? fun p => p.2 == k').map (·.1)
def fwd (m : List (Nat × Nat)) (k : Nat) : Option Nat := (m.find? fun p => p.1 == k).map (·.2)
def mOk : List (Nat × Nat) → Bool
  | [] => true
  | (a, b) :: r => (r.all fun p => decide (p.1 ≠ a) && decide (p.2 ≠ b)) && mOk r
theorem inv_fwd {m : List (Nat × Nat)} (h : mOk m = true) {k k'} (hk : inv m k' = some k) : fwd m k = some k' := by
  induction m with
  | nil => simp [inv] at hk
  | cons p r ih =>
    obtain ⟨a, b⟩ := p
    simp only [mOk, Bool.and_eq_true] at h
    by_cases e : b = k'
    · subst e
      simp [inv] at hk
      subst hk
      simp [fwd]
    · have hk' : inv r k' = some k := by simpa [inv, e] using hk
      have := ih h.2 hk'
      have hne : a ≠ k := fun ea => by
        subst ea
        obtain ⟨q, hq, _⟩ := Option.map_eq_some_iff.1 this
        have hm := List.mem_of_find?_eq_some hq
        have hp := List.find?_some hq
        have := List.all_eq_true.1 h.1 q hm
        simp at hp this
        exact this.1 hp
      simpa [fwd, hne] using this
theorem fwd_inv {m : List (Nat × Nat)} (h : mOk m = true) {k k'} (hk : fwd m k = some k') : inv m k' = some k := by
  induction m with
  | nil => simp [fwd] at hk
  | cons p r ih =>
    obtain ⟨a, b⟩ := p
    simp only [mOk, Bool.and_eq_true] at h
    by_cases e : a = k
    · subst e
      simp [fwd] at hk
      subst hk
      simp [inv]
    · have hk' : fwd r k = some k' := by simpa [fwd, e] using hk
      have := ih h.2 hk'
      have hne : b ≠ k' := fun ea => by
        subst ea
        obtain ⟨q, hq, _⟩ := Option.map_eq_some_iff.1 this
        have hm := List.mem_of_find?_eq_some hq
        have hp := List.find?_some hq
        have := List.all_eq_true.1 h.1 q hm
        simp at hp this
        exact this.2 hp
      simpa [inv, hne] using this
def fwds (m : List (Nat × Nat)) : List Nat → Option (List Nat)
  | [] => some []
  | h :: r => match fwd m h, fwds m r with
    | some k, some ks => some (k :: ks)
    | _, _ => none
theorem fwd_mem {m : List (Nat × Nat)} (hm : mOk m = true) {h k} (hk : (h, k) ∈ m) : fwd m h = some k := by
  induction m with
  | nil => cases hk
  | cons p r ih =>
    obtain ⟨a, b⟩ := p
    simp only [mOk, Bool.and_eq_true] at hm
    rcases List.mem_cons.1 hk with e | e
    · cases e; simp [fwd]
    · have := List.all_eq_true.1 hm.1 _ e
      simp at this
      have hne : a ≠ h := fun e => this.1 e.symm
      simpa [fwd, hne] using ih hm.2 e
/-! ### functions -/
/-! ### own variables that are lent -/
def prH : TV → List Nat
  | .pr h _ => [h]
  | .cb _ hs => hs
  | _ => []
def addM (m : List (Nat × Nat)) (h : Nat) : List (Nat × Nat) := if m.any (fun p => p.1 == h) then m else m ++ [(h, m.length)]
/-- The own variables that the arguments speak of. -/
def argH (T : Tab) (Γ : Nm → C) : List Nat → List Operand → List Nat
  | _, [] => []
  | ts, x :: r => (cellsOf (nlAs T (ts.headD 0) (opX Γ x))).flatMap prH ++ argH T Γ (ts.drop 1) r
def boxH (Γ : Nm → C) (h : Nat) : List Nat := match Γ (.box h) with
  | .box _ xs => xs.flatMap prH
  | _ => []
def nestH (Γ : Nm → C) (m : List (Nat × Nat)) : List (Nat × Nat) := (m.flatMap fun p => boxH Γ p.1).foldl addM m
/-- The variables' numbers, here and there. -/
def bxM (T : Tab) (Γ : Nm → C) (ts : List Nat) (xs : List Operand) : List (Nat × Nat) := nestH Γ ((argH T Γ ts xs).foldl addM [])
/-- A cell as it is handed over. -/
def cellB (Γ : Nm → C) (m : List (Nat × Nat)) : TV → Option (TV × List Nat)
  | .pr h off => (fwd m h).map fun k => (.pr k off, [])
  | .cb f hs => (fwds m hs).map fun ks => (.cb f ks, [])
  | .dead => some (.dead, [])
  | x => (frzT Γ x).map fun p => (.v p.1, p.2)
def cellsB (Γ : Nm → C) (m : List (Nat × Nat)) : List TV → Option (List TV × List Nat)
  | [] => some ([], [])
  | x :: r => match cellB Γ m x, cellsB Γ m r with
    | some (y, h1), some (ys, h2) => some (y :: ys, h1 ++ h2)
    | _, _ => none
def byB (Γ : Nm → C) (m : List (Nat × Nat)) : X → Option (X × List Nat)
  | .p (.one x) => (cellB Γ m x).map fun p => (.p (.one p.1), p.2)
  | .p (.agg xs) => (cellsB Γ m xs).map fun p => (.p (.agg p.1), p.2)
  | .tup _ => none
def argsB (T : Tab) (Γ : Nm → C) (m : List (Nat × Nat)) : List Nat → List Operand → Option (List X × List Nat)
  | _, [] => some ([], [])
  | ts, x :: r => match byB Γ m (nlAs T (ts.headD 0) (opX Γ x)), argsB T Γ m (ts.drop 1) r with
    | some (y, h1), some (ys, h2) => some (y :: ys, h1 ++ h2)
    | _, _ => none
def boxesB (Γ : Nm → C) (m : List (Nat × Nat)) : List (Nat × Nat) → Option (Boxes × List Nat)
  | [] => some ([], [])
  | (h, _) :: r => match Γ (.box h) with
    | .box ty xs => match cellsB Γ m xs, boxesB Γ m r with
      | some (ys, h1), some (bs, h2) => some ((ty, ys) :: bs, h1 ++ h2)
      | _, _ => none
    | _ => none
/-- A cell as it comes back. -/
def backT (m : List (Nat × Nat)) (bs : Boxes) : TV → TV
  | .v x => .v x
  | .pr k off => match inv m k, bs[k]? with
    | some h, some (_, _ :: _) => .pr h off
    | _, _ => .dead
  | _ => .dead
def boxW (m : List (Nat × Nat)) (bs0 : Boxes) : List (Nat × Nat) → Boxes → List (Nm × C)
  | (h, _) :: r, (ty, xs) :: bs => (.box h, if xs.isEmpty then .none else .box ty (xs.map (backT m bs0))) :: boxW m bs0 r bs
  | _, _ => []
/-- Which of the lent variables a block is. -/
def lentB (g : Gh) (m : List (Nat × Nat)) (b : Nat) : Option Nat := (m.find? fun p => g.bk p.1 == b).map (·.2)
/-- The callee's ghosts. -/
def Gh.bc (g : Gh) (m : List (Nat × Nat)) : Gh where
  o := fun b => match lentB g m b with | some k => .box k | none => if g.o b = .imm then .imm else .other
  hd := g.hd
  bk := fun k => match inv m k with | some h => g.bk h | none => 0
def lostB (g : Gh) (m : List (Nat × Nat)) (bs : Boxes) (b : Nat) : Bool := match lentB g m b with
  | some k => match bs[k]? with | some (_, xs) => xs.isEmpty | none => true
  | none => false
/-- Behind the call. -/
def Gh.ba (g : Gh) (m : List (Nat × Nat)) (bs : Boxes) (g' : Gh) : Gh where
  o := fun b => if g.o b ≠ .other ∧ lostB g m bs b = false then g.o b else match g'.o b with | .imm => .imm | _ => .other
  hd := g.hd
  bk := g.bk
/-- What is lent is no longer one's own. -/
def Gh.rb (g : Gh) (m : List (Nat × Nat)) : Gh := { o := fun b => match lentB g m b with | some _ => .other | none => g.o b, hd := g.hd, bk := g.bk }
/-- Each lent variable is one. -/
def Lent (_w : World) (g : Gh) (m : List (Nat × Nat)) : Prop := ∀ p ∈ m, g.o (g.bk p.1) = .box p.1
theorem lentB_some {w : World} {g : Gh} {m b k} (hm : mOk m = true) (hl : Lent w g m) (h : lentB g m b = some k) : ∃ h', (h', k) ∈ m ∧ g.bk h' = b ∧ g.o b = .box h' ∧ inv m k = some h' := by
  unfold lentB at h
  obtain ⟨p, hp, rfl⟩ := Option.map_eq_some_iff.1 h
  have hmem := List.mem_of_find?_eq_some hp
  have he := List.find?_some hp
  simp at he
  obtain ⟨a, k⟩ := p
  exact ⟨a, hmem, he, by rw [← he]; exact hl _ hmem, fwd_inv hm (fwd_mem hm hmem)⟩
theorem lentB_in {g : Gh} {m h k} (hm : mOk m = true) (hl : Lent (default : World) g m) (h1 : (h, k) ∈ m) : lentB g m (g.bk h) = some k := by
  unfold lentB
  cases hq : m.find? fun p => g.bk p.1 == g.bk h with
  | none => have := List.find?_eq_none.1 hq _ h1; simp at this
  | some p =>
    have hmem := List.mem_of_find?_eq_some hq
    have he := List.find?_some hq
    simp at he
    have e1 := hl _ hmem
    have e2 := hl _ h1
    rw [he, e2] at e1
    have e3 : p.1 = h := by cases e1; rfl
    have e4 := fwd_mem hm (h := p.1) (k := p.2) hmem
    rw [e3, fwd_mem hm h1] at e4
    cases e4; rfl
section
variable {m : List (Nat × Nat)} (hm : mOk m = true)
include hm
theorem bc_svr {w : World} {g : Gh} (hl : Lent w g m) {v : Value} {x : SV} (r : SVR w g.o v x) : SVR w (g.bc m).o v x := r.mono fun b hb => ⟨by
  simp only [Gh.bc]
  cases hq : lentB g m b with
  | some k => obtain ⟨h', _, _, h3, _⟩ := lentB_some hm hl hq; rw [hb] at h3; cases h3
  | none => simp [hb], rfl⟩
theorem bc_bk {g : Gh} {h k} (hk : fwd m h = some k) : (g.bc m).bk k = g.bk h := by simp [Gh.bc, fwd_inv hm hk]
theorem bc_bks {g : Gh} : ∀ {hs ks : List Nat}, fwds m hs = some ks → (hs.map fun h => Value.pointer (some ⟨g.bk h, 0, none⟩)) = ks.map fun h => Value.pointer (some ⟨(g.bc m).bk h, 0, none⟩)
  | [], ks, h => by simp [fwds] at h; subst h; rfl
  | h :: hs, ks, hk => by
    simp only [fwds] at hk
    split at hk
    · rename_i k ks' e1 e2
      cases hk
      simp only [List.map_cons, bc_bk hm e1, bc_bks e2]
    · cases hk
variable {Γ Δ : Nm → C} {nt : Nat} {a : Act} {w : World} {g : Gh} {hs : List Nat}
theorem cellB_rel (hl : Lent w (g.frz hs) m) (r : Rel Δ nt a w g) {u : Value} {x y hs0} (h : cellB Γ m x = some (y, hs0)) (hr : ∀ k ∈ hs0, Δ (.row k) = Γ (.row k)) (hsub : ∀ k ∈ hs0, k ∈ hs) (hx : TVR w g u x) : TVR w ((g.frz hs).bc m) u y := by
  have key : ∀ x : TV, (frzT Γ x).map (fun p => (TV.v p.1, p.2)) = some (y, hs0) → TVR w g u x → TVR w ((g.frz hs).bc m) u y := fun x h hx => by
    obtain ⟨⟨s, hs1⟩, h1, h2⟩ := Option.map_eq_some_iff.1 h
    cases h2
    exact bc_svr hm hl (frzT_rel r h1 hr hsub hx)
  unfold cellB at h
  split at h
  · rename_i h' off
    obtain ⟨k, h1, h2⟩ := Option.map_eq_some_iff.1 h
    cases h2
    show u = _
    rw [bc_bk hm h1]
    exact hx
  · rename_i f hs'
    obtain ⟨ks, h1, h2⟩ := Option.map_eq_some_iff.1 h
    cases h2
    refine (show u = _ from hx).trans ?_
    rw [← bc_bks hm (g := g.frz hs) h1]
    rfl
  · cases h; trivial
  · exact key _ h hx
theorem cellsB_rel (hl : Lent w (g.frz hs) m) (r : Rel Δ nt a w g) : ∀ {us : List Value} {xs ys hs0}, cellsB Γ m xs = some (ys, hs0) → (∀ k ∈ hs0, Δ (.row k) = Γ (.row k)) → (∀ k ∈ hs0, k ∈ hs) → All2 (TVR w g) us xs → All2 (TVR w ((g.frz hs).bc m)) us ys := by
  intro us xs
  induction xs generalizing us with
  | nil =>
    intro ys hs0 h _ _ ha
    simp [cellsB] at h
    obtain ⟨rfl, rfl⟩ := h
    cases us with
    | nil => exact .nil
    | cons u us => have := ha.1; simp at this
  | cons x xs ih =>
    intro ys hs0 h hr hsub ha
    cases us with
    | nil => have := ha.1; simp at this
    | cons u us =>
      simp only [cellsB] at h
      split at h
      · rename_i y h1 ys' h2 e1 e2
        cases h
        exact .cons (cellB_rel hm hl r e1 (fun k hk => hr k (by simp [hk])) (fun k hk => hsub k (by simp [hk])) ha.head) (ih e2 (fun k hk => hr k (by simp [hk])) (fun k hk => hsub k (by simp [hk])) ha.tail)
      · cases h
theorem byB_rel (hl : Lent w (g.frz hs) m) (r : Rel Δ nt a w g) {u : Value} {x y hs0} (h : byB Γ m x = some (y, hs0)) (hr : ∀ k ∈ hs0, Δ (.row k) = Γ (.row k)) (hsub : ∀ k ∈ hs0, k ∈ hs) (hx : XR w g u x) : XR w ((g.frz hs).bc m) u y := by
  unfold byB at h
  split at h
  · obtain ⟨⟨s, hs1⟩, h1, h2⟩ := Option.map_eq_some_iff.1 h
    cases h2
    exact cellB_rel hm hl r h1 hr hsub hx
  · obtain ⟨⟨s, hs1⟩, h1, h2⟩ := Option.map_eq_some_iff.1 h
    cases h2
    obtain ⟨cs, hv, hall⟩ := hx
    exact ⟨cs, hv, cellsB_rel hm hl r h1 hr hsub hall⟩
  · cases h
theorem argsB_rel (hl : Lent w (g.frz hs) m) (r : Rel Δ nt a w g) {T : Tab} : ∀ {xs : List Operand} {ts ys hs0}, argsB T Γ m ts xs = some (ys, hs0) → (∀ n ∈ xs.flatMap opR, Δ n = Γ n) → (∀ k ∈ hs0, Δ (.row k) = Γ (.row k)) → (∀ k ∈ hs0, k ∈ hs) →
    All2 (XR w ((g.frz hs).bc m)) (xs.map a.eval) ys := by
  intro xs
  induction xs with
  | nil => intro ts ys hs0 h _ _ _; simp [argsB] at h; obtain ⟨rfl, rfl⟩ := h; exact .nil
  | cons x xs ih =>
    intro ts ys hs0 h h1 h2 h3
    simp only [argsB] at h
    split at h
    · rename_i y e1 ys' e2 q1 q2
      cases h
      have hx := opX_rel r x
      rw [opX_congr (Γ := Γ) fun n hn => h1 n (by simp [hn])] at hx
      exact .cons (byB_rel hm hl r q1 (fun k hk => h2 k (by simp [hk])) (fun k hk => h3 k (by simp [hk])) (nlAs_rel hx)) (ih q2 (fun n hn => h1 n (by simp only [List.flatMap_cons, List.mem_append]; exact .inr hn)) (fun k hk => h2 k (by simp [hk])) (fun k hk => h3 k (by simp [hk])))
    · cases h
end
def numb : Nat → List (Nat × Nat) → Bool
  | _, [] => true
  | n, (_, k) :: r => decide (k = n) && numb (n + 1) r
theorem numb_at : ∀ {l : List (Nat × Nat)} {n h k}, numb n l = true → (h, k) ∈ l → n ≤ k ∧ k < n + l.length ∧ l[k - n]? = some (h, k)
  | [], n, h, k, _, hm => by simp at hm
  | (a, b) :: l, n, h, k, hn, hm => by
    simp only [numb, Bool.and_eq_true, decide_eq_true_eq] at hn
    rcases List.mem_cons.1 hm with e | hm
    · cases e; rw [hn.1]; simp
    · obtain ⟨q1, q2, q3⟩ := numb_at hn.2 hm
      refine ⟨by omega, by simp; omega, ?_⟩
      obtain ⟨j, hj⟩ : ∃ j, k - n = j + 1 := ⟨k - n - 1, by omega⟩
      rw [hj, List.getElem?_cons_succ, ← q3]; congr 1; omega
theorem numb_ix : ∀ {l : List (Nat × Nat)} {n j p}, numb n l = true → l[j]? = some p → p.2 = n + j
  | [], n, j, p, _, hj => by simp at hj
  | (a, b) :: l, n, 0, p, hn, hj => by
    simp only [numb, Bool.and_eq_true, decide_eq_true_eq] at hn
    simp at hj; subst hj; simpa using hn.1
  | (a, b) :: l, n, j + 1, p, hn, hj => by
    simp only [numb, Bool.and_eq_true, decide_eq_true_eq] at hn
    have := numb_ix hn.2 (j := j) (by simpa using hj)
    omega
theorem boxesB_get {Γ : Nm → C} {m : List (Nat × Nat)} : ∀ {l : List (Nat × Nat)} {bs hs}, boxesB Γ m l = some (bs, hs) → bs.length = l.length ∧ ∀ (j : Nat) p, l[j]? = some p → ∃ ty xs ys hs1, Γ (.box p.1) = .box ty xs ∧ cellsB Γ m xs = some (ys, hs1) ∧ bs[j]? = some (ty, ys) ∧ ∀ k ∈ hs1, k ∈ hs
  | [], bs, hs, h => by simp [boxesB] at h; obtain ⟨rfl, rfl⟩ := h; exact ⟨rfl, fun j p hj => by simp at hj⟩
  | (a, b) :: l, bs, hs, h => by
    simp only [boxesB] at h
    split at h
    · rename_i ty xs hb
      split at h
      · rename_i ys h1 bs' h2 e1 e2
        cases h
        obtain ⟨q1, q2⟩ := boxesB_get e2
        refine ⟨by simp [q1], fun j p hj => ?_⟩
        cases j with
        | zero => simp at hj; subst hj; exact ⟨ty, xs, ys, h1, hb, e1, rfl, fun k hk => by simp [hk]⟩
        | succ j =>
          obtain ⟨ty', xs', ys', hs1, p1, p2, p3, p4⟩ := q2 j p (by simpa using hj)
          exact ⟨ty', xs', ys', hs1, p1, p2, by simpa using p3, fun k hk => by simp [p4 k hk]⟩
      · cases h
    · cases h
/-- Nothing is known of the lent variables any more. -/
def noneW (m : List (Nat × Nat)) : List (Nm × C) := m.map fun p => (.box p.1, .none)
theorem ups_noneW {Γ : Nm → C} {m : List (Nat × Nat)} {n : Nm} : ups Γ (noneW m) n = if (∃ p ∈ m, n = .box p.1) then .none else Γ n := by
  induction m with
  | nil => simp [noneW, ups]
  | cons h hs ih =>
    simp only [noneW, List.map_cons, ups] at ih ⊢
    by_cases e : n = .box h.1
    · subst e; rw [up_same, if_pos ⟨h, List.mem_cons_self, rfl⟩]
    · rw [up_ne e, ih]
      have hi : (∃ p ∈ h :: hs, n = .box p.1) ↔ ∃ p ∈ hs, n = .box p.1 := ⟨fun ⟨p, hp, hq⟩ => by
        rcases List.mem_cons.1 hp with rfl | hp
        · exact absurd hq e
        · exact ⟨p, hp, hq⟩, fun ⟨p, hp, hq⟩ => ⟨p, List.mem_cons_of_mem _ hp, hq⟩⟩
      by_cases hc : ∃ p ∈ hs, n = .box p.1
      · rw [if_pos hc, if_pos (hi.2 hc)]
      · rw [if_neg hc, if_neg fun q => hc (hi.1 q)]
theorem Unm.noneW {Γ : Nm → C} {k m} (h : Unm Γ k) : Unm (ups Γ (Go.Proofs.YtdpflafjfkooeaaGreatDoorG.noneW m)) k := fun n => by
  rw [ups_noneW]
  split
  · exact ⟨by simp [C.ment], fun _ => rfl⟩
  · exact h n
section
variable {m : List (Nat × Nat)} (hm : mOk m = true) {Δ : Nm → C} {nt i : Nat} {a : Act} {w w' : World} {g g' : Gh}
theorem rb_svr {w : World} {g : Gh} (hm : mOk m = true) (hl : Lent w g m) {v : Value} {x : SV} (r : SVR w g.o v x) : SVR w (g.rb m).o v x := r.mono fun b hb => ⟨by
  simp only [Gh.rb]
  cases hq : lentB g m b with
  | some k => obtain ⟨h', _, _, h3, _⟩ := lentB_some hm hl hq; rw [hb] at h3; cases h3
  | none => exact hb, rfl⟩
theorem rb_tvr {w : World} {g : Gh} (hm : mOk m = true) (hl : Lent w g m) {v : Value} {x : TV} (r : TVR w g v x) : TVR w (g.rb m) v x := by
  cases x with
  | v x => exact rb_svr hm hl r
  | cp xs k => exact (rb_svr hm hl (CPR.svr r)).cpr
  | nn e xs => exact ⟨rb_svr hm hl r.1, r.2⟩
  | _ => exact r
theorem rb_xr {w : World} {g : Gh} (hm : mOk m = true) (hl : Lent w g m) {v : Value} {x : X} (r : XR w g v x) : XR w (g.rb m) v x := by
  have key : ∀ {v : Value} {x : PX}, PXR w g v x → PXR w (g.rb m) v x := fun {v x} r => by
    cases x with
    | one x => exact rb_tvr hm hl r
    | agg xs => obtain ⟨cs, h1, h2⟩ := r; exact ⟨cs, h1, h2.mono fun _ _ => rb_tvr hm hl⟩
  cases x with
  | p x => exact key r
  | tup xs => obtain ⟨vs, h1, h2⟩ := r; exact ⟨vs, h1, h2.mono fun _ _ => key⟩
include hm
theorem rb_keep (hl : Lent w g m) {b : Nat} (h : ∀ p ∈ m, g.o b ≠ .box p.1) : (g.rb m).o b = g.o b := by
  simp only [Gh.rb]
  cases hq : lentB g m b with
  | some k => obtain ⟨h', h1, _, h3, _⟩ := lentB_some hm hl hq; exact absurd h3 (h _ h1)
  | none => rfl
theorem Rel.rbr (r : Rel Δ nt a w g) (hl : Lent w g m) : Rel (ups Δ (Go.Proofs.YtdpflafjfkooeaaGreatDoorG.noneW m)) nt a w (g.rb m) := by
  refine ⟨r.size, r.df, fun b hb => r.tags b fun e => hb ?_, r.gl.keep fun q => ⟨rfl, ?_⟩, fun n => ?_⟩
  · simp only [Gh.rb]; cases lentB g m b with
    | some k => rfl
    | none => exact e
  · simp only [Gh.rb]; cases hq : lentB g m 0 with
    | some k => obtain ⟨h', _, _, h3, _⟩ := lentB_some hm hl hq; rw [q] at h3; cases h3
    | none => exact q
  rw [ups_noneW]
  split
  · cases n <;> trivial
  · rename_i hn
    have hc := r.cr n
    cases n with
    | t i => cases hg : Δ (.t i) <;> rw [hg] at hc <;> first | trivial | exact hc | exact rb_xr hm hl hc
    | row k =>
      cases hg : Δ (.row k) <;> rw [hg] at hc <;> first | trivial | exact hc | skip
      obtain ⟨n, vs, h1, h2, h3, h4⟩ := hc
      refine ⟨n, vs, h1, h2, h3.imp (fun q => ⟨q.1, fun b hb => ?_⟩) id, h4.mono fun _ _ => rb_svr hm hl⟩
      rw [rb_keep hm hl fun p _ => by rw [q.2 b hb]; simp]
      exact q.2 b hb
    | box k =>
      cases hg : Δ (.box k) <;> rw [hg] at hc <;> first | trivial | exact hc | skip
      obtain ⟨cur, h1, h2, h3⟩ := hc
      refine ⟨cur, h1, ?_, h3.mono fun _ _ => rb_tvr hm hl⟩
      show (g.rb m).o (g.bk k) = _
      rw [rb_keep hm hl fun p hp e => by
        have h2' : g.o (g.bk k) = .box k := h2
        rw [h2'] at e
        cases e
        exact hn ⟨p, hp, rfl⟩]
      exact h2
omit hm in
theorem isV_xr {w' : World} {g' ga : Gh} (hi : ∀ b, g'.o b = .imm → ga.o b = .imm) {u : Value} {x : X} (hk : x.all TV.isV = true) (r : XR w' g' u x) : XR w' ga u x := by
  have k1 : ∀ {u : Value} {x : TV}, x.isV = true → TVR w' g' u x → TVR w' ga u x := fun {u x} h1 r => by
    cases x with
    | v y => exact SVR.mono (fun b hb => ⟨hi b hb, rfl⟩) r
    | _ => simp [TV.isV] at h1
  have k2 : ∀ {u : Value} {x : PX}, x.all TV.isV = true → PXR w' g' u x → PXR w' ga u x := fun {u x} h1 r => by
    cases x with
    | one y => exact k1 (by simpa [PX.all] using h1) r
    | agg xs =>
      obtain ⟨cs, hv, hall⟩ := r
      exact ⟨cs, hv, hall.mono' fun u y hy hr => k1 (List.all_eq_true.1 h1 y hy) hr⟩
  cases x with
  | p y => exact k2 hk r
  | tup xs =>
    obtain ⟨cs, hv, hall⟩ := r
    exact ⟨cs, hv, hall.mono' fun u y hy hr => k2 (List.all_eq_true.1 hk y hy) hr⟩
/-- Behind a call that returns. -/
theorem callB_ret (r : Rel Δ nt a w g) (hl : Lent w g m) (hnum : numb 0 m = true) {res : X} {bs : Boxes} {v : Value}
    (hf : Fr w w' (g.bc m).o g'.o) (hlt : ∀ b, g'.o b ≠ .other → b < w'.heap.size) (hk : res.all TV.isV = true) (hlen : bs.length = m.length) (hlent : ∀ b ∈ bs, ∀ x ∈ b.2, x.lent = true)
    (hx : XR w' g' v res) (hbs : ∀ k ty xs, bs[k]? = some (ty, xs) → xs ≠ [] → BoxR w' g' k ty xs ∧ g'.bk k = (g.bc m).bk k) :
    Rel (ups Δ (boxW m bs m bs ++ Go.Proofs.YtdpflafjfkooeaaGreatDoorG.noneW m)) nt a w' (g.ba m bs g') ∧ Fr w w' g.o (g.ba m bs g').o ∧ XR w' (g.ba m bs g') v res := by
  have hbx : ∀ h k, (h, k) ∈ m → ∃ ty xs, bs[k]? = some (ty, xs) ∧ (xs ≠ [] → BoxR w' g' k ty xs ∧ g'.bk k = g.bk h) := fun h k hmem => by
    obtain ⟨_, q2, _⟩ := numb_at hnum hmem
    have hk : k < bs.length := by omega
    obtain ⟨b, hb⟩ : ∃ b, bs[k]? = some b := ⟨bs[k], List.getElem?_eq_getElem hk⟩
    refine ⟨b.1, b.2, hb, fun hne => ?_⟩
    obtain ⟨e1, e2⟩ := hbs k b.1 b.2 hb hne
    exact ⟨e1, e2.trans (bc_bk hm (fwd_mem hm hmem))⟩
  have hlk : ∀ b k, lentB g m b = some k → lostB g m bs b = false → g'.o b = .box k := fun b k hq hlo => by
    obtain ⟨h', h1, h2, _, _⟩ := lentB_some hm hl hq
    obtain ⟨ty, xs, q0, hq'⟩ := hbx h' k h1
    have hne : xs ≠ [] := fun e => by simp [lostB, hq, q0, e] at hlo
    obtain ⟨⟨cur, q1, q2, q3⟩, e2⟩ := hq' hne
    rw [e2, h2] at q2
    exact q2
  have hlo : ∀ b, lentB g m b = none → lostB g m bs b = false := fun b hq => by simp [lostB, hq]
  have hbc : ∀ b, lentB g m b = none → (g.bc m).o b = if g.o b = .imm then .imm else .other := fun b hq => by simp [Gh.bc, hq]
  have hold : ∀ b, lentB g m b = none → b < w.heap.size → w'.heap[b]? = w.heap[b]? ∧ g'.o b = if g.o b = .imm then .imm else .other := fun b hq hb => by
    have := hf.keep b hb (by rw [hbc b hq]; split <;> simp)
    exact ⟨this.1, this.2.trans (hbc b hq)⟩
  have hba : ∀ b, g.o b ≠ .other → lostB g m bs b = false → (g.ba m bs g').o b = g.o b := fun b hb h2 => by simp [Gh.ba, hb, h2]
  have hbo : ∀ b, ¬ (g.o b ≠ .other ∧ lostB g m bs b = false) → (g.ba m bs g').o b = match g'.o b with | .imm => .imm | _ => .other := fun b hb => by simp only [Gh.ba]; rw [if_neg hb]
  have himm : ∀ b, g'.o b = .imm → (g.ba m bs g').o b = .imm := fun b hb => by
    by_cases ho : g.o b ≠ .other ∧ lostB g m bs b = false
    · rw [hba b ho.1 ho.2]
      cases hq : lentB g m b with
      | some k => rw [hlk b k hq ho.2] at hb; cases hb
      | none =>
        have := (hold b hq (r.tags b ho.1)).2
        rw [hb] at this
        by_cases hi : g.o b = .imm
        · exact hi
        · rw [if_neg hi] at this; cases this
    · rw [hbo b ho, hb]
  have hrb : ∀ b, (g.rb m).o b ≠ .other → lentB g m b = none ∧ g.o b ≠ .other ∧ (g.rb m).o b = g.o b := fun b hb => by
    simp only [Gh.rb] at hb ⊢
    cases hq : lentB g m b with
    | some k => rw [hq] at hb; exact absurd rfl hb
    | none => rw [hq] at hb; exact ⟨rfl, hb, rfl⟩
  have ext : Ext w w' (g.rb m) (g.ba m bs g') none fun k => ¬ Unm (ups Δ (Go.Proofs.YtdpflafjfkooeaaGreatDoorG.noneW m)) k :=
    ⟨hf.size, fun b hb _ => by
        obtain ⟨q1, q2, q3⟩ := hrb b hb
        exact ⟨(hold b q1 (r.tags b q2)).1, by rw [hba b q2 (hlo b q1), q3]⟩,
      fun b hb => by
        by_cases ho : g.o b ≠ .other ∧ lostB g m bs b = false
        · exact Nat.lt_of_lt_of_le (r.tags b ho.1) hf.size
        · refine hlt b fun e => hb ?_
          rw [hbo b ho, e],
      fun k hk => rfl, fun k _ => rfl⟩
  have r1 := (r.rbr hm hl).ext ext
  have htv : ∀ (u : Value) (x : TV), x.lent = true → TVR w' g' u x → TVR w' (g.ba m bs g') u (backT m bs x) := fun u x hx hr => by
    cases x with
    | v y => exact SVR.mono (fun b hb => ⟨himm b hb, rfl⟩) hr
    | pr k off =>
      simp only [backT]
      split
      · rename_i h ty0 x0 xs0 hq hb0
        have hf' := inv_fwd hm hq
        have hmem : (h, k) ∈ m := by
          unfold inv at hq
          obtain ⟨p, hp, rfl⟩ := Option.map_eq_some_iff.1 hq
          have h1 := List.mem_of_find?_eq_some hp
          have h2 := List.find?_some hp
          simp at h2
          rw [← h2]; exact h1
        obtain ⟨ty, xs, q0, q1⟩ := hbx h k hmem
        rw [hb0] at q0
        cases q0
        obtain ⟨_, e2⟩ := q1 (by simp)
        show u = _
        have hr' : u = _ := hr
        rw [hr', e2]; rfl
      · trivial
    | dead => trivial
    | _ => simp [TV.lent] at hx
  have r2 : ∀ (l : List (Nat × Nat)) (bl : Boxes) (n : Nat), (∀ j p, l[j]? = some p → m[n + j]? = some p) → (∀ j b, bl[j]? = some b → bs[n + j]? = some b) → Rel (ups (ups Δ (Go.Proofs.YtdpflafjfkooeaaGreatDoorG.noneW m)) (boxW m bs l bl)) nt a w' (g.ba m bs g') := by
    intro l
    induction l with
    | nil => intro bl n _ _; cases bl <;> exact r1
    | cons p l ih =>
      intro bl n h1 h2
      cases bl with
      | nil => exact r1
      | cons b bl =>
        obtain ⟨h, k⟩ := p
        obtain ⟨ty, xs⟩ := b
        simp only [boxW, ups]
        refine (ih bl (n + 1) (fun j p hj => by have := h1 (j + 1) p (by simpa using hj); rwa [show n + (j + 1) = n + 1 + j by omega] at this) (fun j b hj => by have := h2 (j + 1) b (by simpa using hj); rwa [show n + (j + 1) = n + 1 + j by omega] at this)).upd ?_
        have e1 := h1 0 _ rfl
        have e2 := h2 0 _ rfl
        rw [Nat.add_zero] at e1 e2
        have e3 := numb_ix hnum e1
        simp only [Nat.zero_add] at e3
        have hmem := List.mem_of_getElem? e1
        subst e3
        obtain ⟨ty', xs', q0, hq'⟩ := hbx h k hmem
        rw [e2] at q0
        cases q0
        by_cases hem : xs = []
        · subst hem; simp only [List.isEmpty_nil, if_true]; trivial
        rw [if_neg (by simpa using hem)]
        obtain ⟨⟨cur, q1, q2, q3⟩, q4⟩ := hq' hem
        have hb : g.o (g.bk h) = .box h := hl _ hmem
        have hlost : lostB g m bs (g.bk h) = false := by
          have := lentB_in (g := g) hm hl hmem
          simp [lostB, this, e2, hem]
        refine ⟨cur, by rw [show (g.ba m bs g').bk h = g.bk h from rfl, ← q4]; exact q1, by
          show (g.ba m bs g').o (g.bk h) = _
          rw [hba _ (by rw [hb]; simp) hlost]; exact hb, by simp [q3.1], fun j u y p1 p2 => ?_⟩
        rw [List.getElem?_map] at p2
        cases hz : xs[j]? with
        | none => simp [hz] at p2
        | some z =>
          simp [hz] at p2
          subst p2
          exact htv u z (hlent _ (List.mem_of_getElem? e2) z (List.mem_of_getElem? hz)) (q3.2 j u z p1 hz)
  have r3 := r2 m bs 0 (fun j p hj => by simpa using hj) (fun j b hj => by simpa using hj)
  rw [← ups_append] at r3
  refine ⟨r3, ⟨hf.os, hf.tape, hf.output, hf.size, fun b hb ho => ?_, fun b hb ⟨k, hk⟩ => ?_⟩, isV_xr himm hk hx⟩
  · have hq : lentB g m b = none := by
      cases hq : lentB g m b with
      | some k => obtain ⟨h', _, _, h3, _⟩ := lentB_some hm hl hq; rcases ho with ho | ho <;> rw [ho] at h3 <;> cases h3
      | none => rfl
    obtain ⟨q1, q2⟩ := hold b hq hb
    refine ⟨q1, ?_⟩
    rcases ho with ho | ho
    · rw [hbo b (fun h => h.1 ho), q2, ho]; rfl
    · exact hba b (by rw [ho]; simp) (hlo b hq)
  · constructor
    · by_cases ho : g.o b ≠ .other ∧ lostB g m bs b = false
      · rw [hba b ho.1 ho.2, hk]; rfl
      · rw [hbo b ho]; split <;> rfl
    · cases hq : lentB g m b with
      | some j => exact (hf.bx b hb ⟨j, by simp [Gh.bc, hq]⟩).2
      | none => exact Shp.of_eq (hold b hq hb).1
/-- Behind a call that panics. -/
theorem callB_pan (r : Rel Δ nt a w g) (hl : Lent w g m) {o' : Nat → Tag} (hf : Fr w w' (g.bc m).o o') : Fr w w' g.o g.o ∧ ∀ b, g.o b ≠ .other → b < w'.heap.size := by
  have hbc : ∀ b, lentB g m b = none → (g.bc m).o b = if g.o b = .imm then .imm else .other := fun b hq => by simp [Gh.bc, hq]
  have hold : ∀ b, lentB g m b = none → b < w.heap.size → w'.heap[b]? = w.heap[b]? := fun b hq hb => (hf.keep b hb (by rw [hbc b hq]; split <;> simp)).1
  refine ⟨⟨hf.os, hf.tape, hf.output, hf.size, fun b hb ho => ⟨hold b ?_ hb, rfl⟩, fun b hb ⟨k, hk⟩ => ⟨by rw [hk]; rfl, ?_⟩⟩, fun b hb => Nat.lt_of_lt_of_le (r.tags b hb) hf.size⟩
  · cases hq : lentB g m b with
    | some k => obtain ⟨h', _, _, h3, _⟩ := lentB_some hm hl hq; rcases ho with ho | ho <;> rw [ho] at h3 <;> cases h3
    | none => rfl
  · cases hq : lentB g m b with
    | some j => exact (hf.bx b hb ⟨j, by simp [Gh.bc, hq]⟩).2
    | none => exact Shp.of_eq (hold b hq hb)
end
/-! ### panics -/
/-- An operation that panics. -/
def PanOk (P : Program) (nt i : Nat) (o : Oper) (Γ : Nm → C) (rd : List Nm) (v : Value) : Prop :=
  ∀ (Δ : Nm → C) (a : Act) (w : World) (g : Gh) (Q : Exit → Act → World → Prop) (K : Act → World → Prop), (∀ n ∈ rd, Δ n = Γ n) → (∀ k, isTh i k → Unm Δ k) → Rel Δ nt a w g →
    (∀ (w' : World) (g' : Gh), (∀ b, g'.o b ≠ .other → b < w'.heap.size) → Fr w w' g.o g'.o → Q (.panic [{ v := v, recovered := false }]) a w') → o.wp P a w K Q
def pan (v : Value) : List (Nm × C) := [(.t 0, .pan v)]
def panV : List (Nm × C) → Option Value
  | (_, .pan v) :: _ => some v
  | _ => none
/-- What an operation comes to: an action, or a panic. -/
def ActX (P : Program) (nt i : Nat) (o : Oper) (Γ : Nm → C) (rd : List Nm) (wr : List (Nm × C)) : Prop :=
  match panV wr with
  | some v => PanOk P nt i o Γ rd v
  | none => ActOk P nt i o Γ rd wr
theorem panV_none {wr : List (Nm × C)} {Δ nt a w g v} (h : panV wr = some v) (r : Rel (ups Δ wr) nt a w g) : False := by
  cases wr with
  | nil => simp [panV] at h
  | cons p wr =>
    obtain ⟨n, c⟩ := p
    cases c <;> simp [panV] at h
    have := r.cr n
    simp only [ups, up_same] at this
    cases n <;> exact this
theorem ActOk.x {P nt i o Γ rd wr} (h : ActOk P nt i o Γ rd wr) : ActX P nt i o Γ rd wr := by
  unfold ActX
  split
  · rename_i v hv
    exact fun Δ a w g Q K hr hu r _ => h Δ a w g Q K hr hu r fun a' w' g' r' _ => (panV_none hv r').elim
  · exact h
theorem PanOk.x {P nt i o Γ rd wr v} (h : PanOk P nt i o Γ rd v) (hv : panV wr = some v) : ActX P nt i o Γ rd wr := by
  unfold ActX
  rw [hv]
  exact h
def Good2 (P : Program) (nt i : Nat) (o : Oper) (Γ : Nm → C) (K : List Nm → List (Nm × C) → Prop) : Prop := ∃ rd wr, ActX P nt i o Γ rd wr ∧ K rd wr
theorem Good.x {P nt i o Γ K} (h : Good P nt i o Γ K) : Good2 P nt i o Γ K := by
  obtain ⟨rd, wr, h1, h2⟩ := h
  exact ⟨rd, wr, h1.x, h2⟩
def vCallBx (T : Tab) (O : Orc) (Γ : Nm → C) (i : Nat) (o : Oper) (rd0 : List Nm) (f : Nat) (ts : List Nat) (xs : List Operand) (K : List Nm → List (Nm × C) → Prop) : Prop :=
  match bxM T Γ ts xs with
  | m => mOk m = true ∧ numb 0 m = true ∧ match argsB T Γ m ts xs, boxesB Γ m m with
    | some (ys, h1), some (bs, h2) => O.b f bs ys fun out => match out with
      | .ret res bs' => K (rd0 ++ (xs.flatMap opR ++ (m.map (fun p => Nm.box p.1) ++ (h1 ++ h2).map .row))) (putT o.dst res ++ (boxW m bs' m bs' ++ (noneW m ++ frzW (h1 ++ h2))))
      | .pan v => K (rd0 ++ (xs.flatMap opR ++ (m.map (fun p => Nm.box p.1) ++ (h1 ++ h2).map .row))) (pan v)
    | _, _ => False
theorem vCallBx_ok {P : Program} {T : Tab} {O : Orc} {Γ : Nm → C} {nt i : Nat} {o : Oper} {c : Call} {f : Nat} {K : List Nm → List (Nm × C) → Prop} {cx : Operand} {rd0 : List Nm} (hO : OrcOk P O) (hd : dOk nt o) (ho : o.op = .call c) (hc : c.callee = .value cx) (hcal : ∀ (Δ : Nm → C) (a : Act) w g, (∀ n ∈ rd0, Δ n = Γ n) → Rel Δ nt a w g → a.eval cx = .func (.func f) #[] #[])
    (h : vCallBx T O Γ i o rd0 f c.argTypes.toList c.args.toList K) : Good2 P nt i o Γ K := by
  unfold vCallBx at h
  generalize bxM T Γ c.argTypes.toList c.args.toList = m at h
  obtain ⟨hm, hnum, h⟩ := h
  split at h
  case h_2 => exact h.elim
  rename_i ys h1 bs h2 hargs hboxes
  obtain ⟨out, hcall, h⟩ := hO.b _ _ _ _ h
  have hbget := boxesB_get hboxes
  have hcore : ∀ (Δ : Nm → C) (a : Act) (w : World) (g : Gh) Q K', (∀ n ∈ rd0 ++ (c.args.toList.flatMap opR ++ (m.map (fun p => Nm.box p.1) ++ (h1 ++ h2).map .row)), Δ n = Γ n) → Rel Δ nt a w g →
      (∀ e w', Lent w (g.frz (h1 ++ h2)) m → out.post w ((g.frz (h1 ++ h2)).bc m) e w' → match e with | .returned v => K' (a.put o.dst v) w' | .panicked ch => Q (.panic ch) a w' | .outgrown => False) → o.wp P a w K' Q := fun Δ a w g Q K' hr r hk => by
    have hrow : ∀ k ∈ h1 ++ h2, Δ (.row k) = Γ (.row k) := fun k hk => hr _ (by simp only [List.mem_append, List.mem_map] at hk ⊢; exact .inr (.inr (.inr ⟨k, hk, rfl⟩)))
    have hbox : ∀ p ∈ m, Δ (.box p.1) = Γ (.box p.1) := fun p hp => hr _ (by simp only [List.mem_append, List.mem_map]; exact .inr (.inr (.inl ⟨p, hp, rfl⟩)))
    have hcx := hcal Δ a w g (fun n hn => hr n (List.mem_append_left _ hn)) r
    have hl : Lent w (g.frz (h1 ++ h2)) m := fun p hp => by
      obtain ⟨j, hj⟩ := List.mem_iff_getElem?.1 hp
      obtain ⟨ty, xs, _, _, q1, _⟩ := hbget.2 j p hj
      obtain ⟨cur, e1, e2, e3⟩ := r.box (h := p.1) (by rw [hbox p hp, q1])
      show (g.frz (h1 ++ h2)).o (g.bk p.1) = _
      simp [Gh.frz, e2]
    have harg := argsB_rel hm hl r hargs (fun n hn => hr n (List.mem_append_right _ (List.mem_append_left _ hn))) (fun k hk => hrow k (by simp [hk])) (fun k hk => by simp [hk])
    have hlt : ∀ b, (g.frz (h1 ++ h2)).o b ≠ .other → b < w.heap.size := fun b hb => r.tags b fun e => hb (frz_other.2 e)
    have hcl := hcall.calls w (c.args.toList.map a.eval) ((g.frz (h1 ++ h2)).bc m) (fun b => by
      simp only [Gh.bc]
      cases lentB (g.frz (h1 ++ h2)) m b with
      | some k => exact .inr (.inr ⟨k, rfl⟩)
      | none => simp only []; split <;> simp) (fun b hb => by
      refine hlt b fun e => hb ?_
      simp only [Gh.bc]
      cases hq : lentB (g.frz (h1 ++ h2)) m b with
      | some k => obtain ⟨h', _, _, h3, _⟩ := lentB_some hm hl hq; rw [e] at h3; cases h3
      | none => simp [e]) (r.gl.keep fun q => ⟨rfl, by
      have q' : (g.frz (h1 ++ h2)).o 0 = .imm := by simp [Gh.frz, q]
      simp only [Gh.bc]
      cases hq : lentB (g.frz (h1 ++ h2)) m 0 with
      | some k => obtain ⟨h', _, _, h3, _⟩ := lentB_some hm hl hq; rw [q'] at h3; cases h3
      | none => simp [q']⟩) harg (fun k ty ys' hk => by
      have hklt : k < m.length := by rw [← hbget.1]; exact (List.getElem?_eq_some_iff.1 hk).1
      have hmk : m[k]? = some m[k] := List.getElem?_eq_getElem hklt
      obtain ⟨ty', xs, ys'', hs1, q1, q2, q3, q4⟩ := hbget.2 k m[k] hmk
      rw [hk] at q3
      cases q3
      have hmem : m[k] ∈ m := List.getElem_mem hklt
      have hix : m[k].2 = k := by have := numb_ix hnum hmk; omega
      obtain ⟨cur, e1, e2, e3⟩ := r.box (h := m[k].1) (by rw [hbox _ hmem, q1])
      have hfw : fwd m m[k].1 = some k := by
        have := fwd_mem hm (h := m[k].1) (k := m[k].2) hmem
        rwa [hix] at this
      have hbk : ((g.frz (h1 ++ h2)).bc m).bk k = g.bk m[k].1 := bc_bk hm hfw
      refine ⟨cur, by rw [hbk]; exact e1, ?_, cellsB_rel hm hl r q2 (fun j hj => hrow j (by simp [q4 j hj])) (fun j hj => by simp [q4 j hj]) e3⟩
      rw [hbk]
      have hlb : lentB (g.frz (h1 ++ h2)) m (g.bk m[k].1) = some m[k].2 := lentB_in (g := g.frz (h1 ++ h2)) hm hl hmem
      simp only [Gh.bc]
      rw [hlb, hix])
    unfold Oper.wp
    have hexec : (execOp a.eval o).run P w = .ok (.enter f (c.args.map a.eval)) w := by
      have := hcall.callable (c.args.map a.eval) w
      have e1 : execOp a.eval o = (do let d ← resolve a.eval c o.type; invoke d.target d.args) := by simp only [execOp, ho]
      have e2 : (resolve a.eval c o.type).run P w = .ok { target := .fn (.func f) #[], args := c.args.map a.eval } w := by
        unfold resolve
        rw [hc]
        simp only [hcx]
        show (Deferred.ofValue (.func (.func f) #[] #[]) (c.args.map a.eval)).run P w = _
        simp [Deferred.ofValue]
      rw [e1, run_bind_ok e2]
      unfold invoke
      simpa using this
    rw [hexec]
    show Calls P f (c.args.map a.eval) w _
    have e : (c.args.toList.map a.eval).toArray = c.args.map a.eval := by rw [← Array.toList_map]
    rw [e] at hcl
    refine hcl.mono fun en w' hh => ?_
    have := hk en w' hl hh
    cases en with
    | returned v => exact this
    | panicked ch => exact this
    | outgrown => exact this.elim
  cases out with
  | ret res bs' =>
    obtain ⟨hk1, hk2, hk3⟩ := hcall.resok
    refine Good.x ⟨_, _, ?_, h⟩
    intro Δ a w g Q K' hr hu r hk
    refine hcore Δ a w g Q K' hr r fun e w' hl hpost => ?_
    obtain ⟨v, g', rfl, p1, p2, p3, p5⟩ := hpost
    have r0 := r.frz (h1 ++ h2)
    obtain ⟨r2, f2, x2⟩ := callB_ret hm r0 hl hnum p1 p2 hk1 (hk2.trans hbget.1) hk3 p3 p5
    rw [← ups_append] at r2
    simp only [List.append_assoc] at r2
    exact hk _ _ _ (rel_putT' (Γ := Δ) hd r2 x2) ((Fr.frz w g _).trans f2)
  | pan v =>
    refine ⟨_, _, PanOk.x (v := v) ?_ rfl, h⟩
    intro Δ a w g Q K' hr hu r hk
    refine hcore Δ a w g Q K' hr r fun e w' hl hpost => ?_
    obtain ⟨rfl, o', p1⟩ := hpost
    obtain ⟨f2, t2⟩ := callB_pan hm (r.frz (h1 ++ h2)) hl p1
    exact hk w' _ t2 ((Fr.frz w g _).trans f2)
end Go.Proofs.YtdpflafjfkooeaaGreatDoorG
