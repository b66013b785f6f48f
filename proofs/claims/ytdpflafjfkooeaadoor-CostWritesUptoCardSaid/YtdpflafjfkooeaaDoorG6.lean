/- G6: structs and slices that are written out; freezing; make; append; cuts of own rows. -/
import Derived.Test.YtdpflafjfkooeaaDoorG5
import Derived.Laws.Tables
import Derived.Great.BuildSlice
namespace Go.Proofs.YtdpflafjfkooeaaDoorG
open Go Go.RowKit
set_option linter.unusedVariables false
set_option linter.unusedSimpArgs false

theorem putAt_get {α : Type} (xs ys : List α) (k j : Nat) (h : k + ys.length ≤ xs.length) : (putAt xs k ys)[j]? = if k ≤ j ∧ j < k + ys.length then ys[j - k]? else xs[j]? := by
  unfold putAt
  by_cases h1 : j < k
  · rw [if_neg (by omega), List.append_assoc, List.getElem?_append_left (by simp; omega), List.getElem?_take, if_pos h1]
  · by_cases h2 : j < k + ys.length
    · rw [if_pos ⟨by omega, h2⟩, List.append_assoc, List.getElem?_append_right (by simp; omega), List.getElem?_append_left (by simp; omega)]
      congr 1; simp; omega
    · rw [if_neg (by omega), List.getElem?_append_right (by simp; omega), List.getElem?_drop]
      congr 1; simp; omega
theorem foldl_set (off : Nat) : ∀ (vs : List Value) (k : Nat) (cells : Array Value), off + k + vs.length ≤ cells.size →
    ((vs.zipIdx k).foldl (fun cs p => cs.setIfInBounds (off + p.2) p.1) cells).toList = putAt cells.toList (off + k) vs
  | [], k, cells, h => by simp [putAt]
  | v :: vs, k, cells, h => by
    simp only [List.zipIdx_cons, List.foldl_cons, List.length_cons] at h ⊢
    rw [foldl_set off vs (k + 1) _ (by simp; omega)]
    apply List.ext_getElem?
    intro j
    rw [putAt_get _ _ _ _ (by simp; omega), putAt_get _ _ _ _ (by simp; omega)]
    simp only [List.length_cons, Array.getElem?_toList, Array.getElem?_setIfInBounds]
    by_cases h1 : j = off + k
    · subst h1
      rw [if_neg (by omega), if_pos (by omega)]
      simp
      omega
    · by_cases h2 : off + k ≤ j ∧ j < off + k + (vs.length + 1)
      · rw [if_pos (by omega), if_pos h2]
        obtain ⟨m, hm⟩ : ∃ m, j - (off + k) = m + 1 := ⟨j - (off + k) - 1, by omega⟩
        rw [hm, List.getElem?_cons_succ]
        congr 1; omega
      · rw [if_neg (by omega), if_neg h2, if_neg (Ne.symm h1)]
def fillG {α : Type} (place : Nat → Option (Nat × Nat)) (xs : List α) : List (Nat × List α) → Option (List α)
  | [] => some xs
  | (i, ys) :: rest => match place i with
    | none => none
    | some (off, size) => if ys.length = size ∧ off + ys.length ≤ xs.length then fillG place (putAt xs off ys) rest else none
theorem fill_rel {α : Type} {R : Value → α → Prop} (place : Nat → Option (Nat × Nat)) : ∀ (ps : List (Nat × List α)) (parts : List (Nat × Value)) (cells : Array Value) (xs xs' : List α), All2 R cells.toList xs →
    All2 (fun (p : Nat × Value) (q : Nat × List α) => p.1 = q.1 ∧ All2 R p.2.cells.toList q.2) parts ps → fillG place xs ps = some xs' → ∃ cells', Instr.fill place cells parts = some cells' ∧ All2 R cells'.toList xs'
  | [], parts, cells, xs, xs', hc, hp, h => by
    cases parts with
    | nil => simp [fillG] at h; subst h; exact ⟨cells, rfl, hc⟩
    | cons p parts => have := hp.1; simp at this
  | (i, ys) :: rest, parts, cells, xs, xs', hc, hp, h => by
    cases parts with
    | nil => have := hp.1; simp at this
    | cons p parts =>
      obtain ⟨i', v⟩ := p
      obtain ⟨rfl, hv⟩ := hp.head
      simp only [fillG] at h
      cases hpl : place i' with
      | none => simp [hpl] at h
      | some q =>
        obtain ⟨off, size⟩ := q
        simp only [hpl] at h
        split at h
        · rename_i hlen
          have h1 : v.cells.size = ys.length := by have := hv.1; simpa using this
          have h2 : cells.size = xs.length := by have := hc.1; simpa using this
          simp only [Instr.fill, hpl]
          rw [if_neg (by simp; omega)]
          have e := foldl_set off v.cells.toList 0 cells (by simp; omega)
          have e' : (v.cells.zipIdx.foldl (fun cs (p : Value × Nat) => cs.setIfInBounds (off + p.2) p.1) cells).toList = putAt cells.toList off v.cells.toList := by
            rw [Nat.add_zero] at e
            rw [← e, ← Array.foldl_toList]
            simp
          refine fill_rel place rest parts _ _ _ ?_ hp.tail h
          rw [e']
          exact hc.putAt off hv
        · cases h

/-- A new home for a nil slice. -/
theorem Rel.nilHome {Γ nt a w g} (r : Rel Γ nt a w g) {k ty e} (hu : Unm Γ k) (he : 0 < e) : Rel (up Γ (.row k) (.row ty e [])) nt a w { g with hd := fun k' => if k' = k then .slice none 0 0 else g.hd k' } := by
  have ext : Ext w w g { g with hd := fun k' => if k' = k then .slice none 0 0 else g.hd k' } none fun k => ¬ Unm Γ k :=
    ⟨Nat.le_refl _, fun _ _ _ => ⟨rfl, rfl⟩, fun b hb => r.tags b hb, fun k' hk => by
      have : k' ≠ k := fun e => hk (e ▸ hu)
      simp [this], fun _ _ => rfl⟩
  refine (r.ext ext).upd ⟨0, [], he, by simp, .inl ⟨?_, fun b hb => ?_⟩, .nil⟩
  · simp only [if_true]; exact World.ownsRow_nil w 0 ty e
  · simp [Value.ownBlock] at hb
theorem Rel.nilHome' {Γ nt a w g} (r : Rel Γ nt a w g) {k ty e} (hu : Unm Γ k) (he : 0 < e) : Rel (up Γ (.row k) (.row ty e [])) nt a w { g with hd := fun k' => if k' = k then .slice none 0 0 else g.hd k' } := r.nilHome hu he

/-! ### freezing: rows that are never written again -/
def Gh.frz (g : Gh) (hs : List Nat) : Gh := { o := fun b => match g.o b with | .row h => if h ∈ hs then .imm else .row h | t => t, hd := g.hd, bk := g.bk }
theorem frz_imm {g : Gh} {hs b} (h : g.o b = .imm) : (g.frz hs).o b = .imm := by simp [Gh.frz, h]
theorem frz_other {g : Gh} {hs b} : (g.frz hs).o b = .other ↔ g.o b = .other := by
  simp only [Gh.frz]
  cases h : g.o b with
  | row k => simp only []; split <;> simp
  | _ => simp
theorem frz_svr {w : World} {g : Gh} {hs : List Nat} {v : Value} {x : SV} (r : SVR w g.o v x) : SVR w (g.frz hs).o v x := r.mono fun b hb => ⟨frz_imm hb, rfl⟩
theorem frz_tvr {w : World} {g : Gh} {hs : List Nat} {v : Value} {x : TV} (r : TVR w g v x) : TVR w (g.frz hs) v x := by
  cases x with
  | v x => exact frz_svr r
  | cp xs k => obtain ⟨b, off, us, h1, h2, h3, h4, h5⟩ := r; exact ⟨b, off, us, h1, frz_imm h2, h3, h4, fun j u x a b => frz_svr (h5 j u x a b)⟩
  | nn e xs => exact ⟨frz_svr r.1, r.2⟩
  | _ => exact r
theorem frz_pxr {w : World} {g : Gh} {hs : List Nat} {v : Value} {x : PX} (r : PXR w g v x) : PXR w (g.frz hs) v x := by
  cases x with
  | one x => exact frz_tvr r
  | agg xs => obtain ⟨cs, h1, h2⟩ := r; exact ⟨cs, h1, h2.mono fun _ _ => frz_tvr⟩
theorem frz_xr {w : World} {g : Gh} {hs : List Nat} {v : Value} {x : X} (r : XR w g v x) : XR w (g.frz hs) v x := by
  cases x with
  | p x => exact frz_pxr r
  | tup xs => obtain ⟨cs, h1, h2⟩ := r; exact ⟨cs, h1, h2.mono fun _ _ => frz_pxr⟩
def frzW (hs : List Nat) : List (Nm × C) := hs.map fun h => (.row h, .none)
theorem ups_frzW {Γ : Nm → C} {hs : List Nat} {n : Nm} : ups Γ (frzW hs) n = if (∃ h ∈ hs, n = .row h) then .none else Γ n := by
  induction hs with
  | nil => simp [frzW, ups]
  | cons h hs ih =>
    simp only [frzW, List.map_cons, ups] at ih ⊢
    by_cases e : n = .row h
    · subst e; simp
    · rw [up_ne e, ih]
      simp [e]
theorem Rel.frz {Γ nt a w g} (r : Rel Γ nt a w g) (hs : List Nat) : Rel (ups Γ (frzW hs)) nt a w (g.frz hs) := by
  refine ⟨r.size, r.df, fun b hb => r.tags b fun e => hb (frz_other.2 e), fun n => ?_⟩
  rw [ups_frzW]
  split
  · cases n <;> trivial
  · rename_i hn
    have hc := r.cr n
    cases n with
    | t i => cases hg : Γ (.t i) <;> rw [hg] at hc <;> first | trivial | exact frz_xr hc
    | row k =>
      cases hg : Γ (.row k) <;> rw [hg] at hc <;> first | trivial | skip
      obtain ⟨m, vs, h1, h2, h3, h4⟩ := hc
      refine ⟨m, vs, h1, h2, h3.imp (fun q => ⟨q.1, fun b hb => ?_⟩) id, h4.mono fun _ _ => frz_svr⟩
      have : k ∉ hs := fun hk => hn ⟨k, hk, rfl⟩
      simp [Gh.frz, q.2 b hb, this]
    | box k =>
      cases hg : Γ (.box k) <;> rw [hg] at hc <;> first | trivial | skip
      obtain ⟨cur, h1, h2, h3⟩ := hc
      exact ⟨cur, h1, by simp [Gh.frz, h2], h3.mono fun _ _ => frz_tvr⟩
theorem Fr.frz (w : World) (g : Gh) (hs : List Nat) : Fr w w g.o (g.frz hs).o :=
  ⟨rfl, rfl, rfl, Nat.le_refl _, fun b hb ho => ⟨rfl, by rcases ho with ho | ho <;> simp [Gh.frz, ho]⟩, fun b hb ⟨k, hk⟩ => ⟨by simp [Gh.frz, hk, Tag.nr], Shp.refl w b⟩⟩
/-- A row as a value, once its block does not change. -/
theorem RowR.frz {w g h ty e xs hs} (r : RowR w g h ty e xs) (hh : h ∈ hs) : SVR w (g.frz hs).o (g.hd h) (.sl e xs) := by
  obtain ⟨ad, n, cap, h1, h2, h3, h4, h5, h6⟩ := r.head
  obtain ⟨m, vs, he, hn, ho', hall⟩ := r
  rw [h1]
  by_cases hz : n = 0
  · subst hz
    have hxs : xs = [] := List.eq_nil_of_length_eq_zero (by simpa using h4)
    rw [hxs]
    exact .nil _ _ _ fun ha => (h5 ha).2
  · cases ad with
    | none =>
      have hxs := (h5 rfl).1
      rw [hxs] at h4
      have : 0 < n * e := Nat.mul_pos (by omega) he
      simp at h4
      omega
    | some b =>
      have hne : xs ≠ [] := fun hxs => by
        rw [hxs] at h4
        have : 0 < n * e := Nat.mul_pos (by omega) he
        simp at h4
        omega
      obtain ⟨ho, htag⟩ : w.ownsRow 0 ty e (g.hd h) m vs ∧ ∀ b, (g.hd h).ownBlock = some b → g.o b = .row h := by
        rcases ho' with hq | ⟨q1, _⟩
        · exact hq
        · subst q1; exact absurd (List.eq_nil_of_length_eq_zero (by simpa using hn)) hne
      obtain ⟨k, rfl⟩ := h6 hne b rfl
      have ht := htag k (by rw [h1]; rfl)
      have hc := ho.cells (g := k) (by rw [h1]; rfl)
      refine .sl k 0 n cap e xs vs (by simp [Gh.frz, ht, hh]) he (by omega) h4 h3 hall.1 (fun j u hj => ?_) fun j u x a b => frz_svr (hall.2 j u x a b)
      have := hc j u hj
      rwa [Addr.add_lit] at this

/-- A content as a value that does not change; the rows that are frozen for it. -/
def frzT (Γ : Nm → C) : TV → Option (SV × List Nat)
  | .v x => some (x, [])
  | .nn e xs => some (.sl e xs, [])
  | .nl _ e => some (.sl e [], [])
  | .sr h => match Γ (.row h) with | .row _ e xs => some (.sl e xs, [h]) | _ => none
  | .cp xs k => some (.pt xs k, [])
  | _ => none
theorem frzT_rel {Γ Δ nt a w g u x s hs0 hs} (r : Rel Δ nt a w g) (h : frzT Γ x = some (s, hs0)) (hr : ∀ k ∈ hs0, Δ (.row k) = Γ (.row k)) (hsub : ∀ k ∈ hs0, k ∈ hs) (hx : TVR w g u x) : SVR w (g.frz hs).o u s := by
  unfold frzT at h
  split at h
  · cases h; exact frz_svr hx
  · cases h; exact frz_svr hx.1
  · cases h; have hx' : u = _ := hx; rw [hx']; exact .nil _ _ _ fun _ => rfl
  · rename_i k
    split at h
    · rename_i ty e xs hrow
      cases h
      have hx' : u = g.hd k := hx
      rw [hx']
      exact (r.row (by rw [hr k (by simp), hrow])).frz (hsub k (by simp))
    · cases h
  · cases h; exact frz_svr (CPR.svr hx)
  · cases h
def frzL (Γ : Nm → C) : List TV → Option (List SV × List Nat)
  | [] => some ([], [])
  | x :: r => match frzT Γ x, frzL Γ r with
    | some (s, h1), some (ss, h2) => some (s :: ss, h1 ++ h2)
    | _, _ => none
theorem frzL_rel {Γ Δ nt a w g} (r : Rel Δ nt a w g) {hs} : ∀ {us xs ss hs0}, frzL Γ xs = some (ss, hs0) → (∀ k ∈ hs0, Δ (.row k) = Γ (.row k)) → (∀ k ∈ hs0, k ∈ hs) → All2 (TVR w g) us xs → All2 (SVR w (g.frz hs).o) us ss := by
  intro us xs
  induction xs generalizing us with
  | nil =>
    intro ss hs0 h hr hsub ha
    simp [frzL] at h
    obtain ⟨rfl, rfl⟩ := h
    cases us with
    | nil => exact .nil
    | cons u us => have := ha.1; simp at this
  | cons x xs ih =>
    intro ss hs0 h hr hsub ha
    cases us with
    | nil => have := ha.1; simp at this
    | cons u us =>
      simp only [frzL] at h
      split at h
      · rename_i s h1 ss' h2 e1 e2
        cases h
        exact .cons (frzT_rel r e1 (fun k hk => hr k (by simp [hk])) (fun k hk => hsub k (by simp [hk])) ha.head) (ih e2 (fun k hk => hr k (by simp [hk])) (fun k hk => hsub k (by simp [hk])) ha.tail)
      · cases h

end Go.Proofs.YtdpflafjfkooeaaDoorG
