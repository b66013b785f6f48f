/- YtdpflafjfkooeaaGreatDoorZ7: a part of the proof, joined of its texts. -/
import Derived.Test.YtdpflafjfkooeaaGreatDoorZ6
/- G9c: own variables that are lent to a call together with the own rows in them. -/
namespace Go.Proofs.YtdpflafjfkooeaaGreatDoorG
open Go Go.RowKit
set_option linter.unusedVariables false
set_option linter.unusedSimpArgs false
def srH : TV → List Nat
  | .sr h => [h]
  | _ => []
def rowHs (Γ : Nm → C) : List (Nat × Nat) → List Nat
  | [] => []
  | p :: r => (match Γ (.box p.1) with | .box _ xs => xs.flatMap srH | _ => []) ++ rowHs Γ r
def addMR (n : Nat) (mr : List (Nat × Nat)) (h : Nat) : List (Nat × Nat) := if mr.any (fun p => p.1 == h) then mr else mr ++ [(h, n + mr.length)]
/-- The rows' numbers, here and there: behind the variables' numbers, as they come in them. -/
def rwM (Γ : Nm → C) (m : List (Nat × Nat)) : List (Nat × Nat) := (rowHs Γ m).foldl (addMR m.length) []
def cellR (Γ : Nm → C) (m mr : List (Nat × Nat)) : TV → Option (TV × List Nat)
  | .sr h => match fwd mr h with
    | some k => some (.sr k, [])
    | none => none
  | x => cellB Γ m x
def cellsR (Γ : Nm → C) (m mr : List (Nat × Nat)) : List TV → Option (List TV × List Nat)
  | [] => some ([], [])
  | x :: r => match cellR Γ m mr x, cellsR Γ m mr r with
    | some (y, h1), some (ys, h2) => some (y :: ys, h1 ++ h2)
    | _, _ => none
def boxesR (Γ : Nm → C) (m mr : List (Nat × Nat)) : List (Nat × Nat) → Option (Boxes × List Nat)
  | [] => some ([], [])
  | (h, _) :: r => match Γ (.box h) with
    | .box ty xs => match cellsR Γ m mr xs, boxesR Γ m mr r with
      | some (ys, h1), some (bs, h2) => some ((ty, ys) :: bs, h1 ++ h2)
      | _, _ => none
    | _ => none
def rowsR (Γ : Nm → C) : List (Nat × Nat) → Option RowL
  | [] => some []
  | (h, k) :: r => match Γ (.row h), rowsR Γ r with
    | .row ty e xs, some rs => some ((k, ty, e, xs) :: rs)
    | _, _ => none
def backR (m : List (Nat × Nat)) (bs : Boxes) (B : Nat) : TV → TV
  | .v x => .v x
  | .sr k => .sr (B + k)
  | .pr k off => match inv m k, bs[k]? with
    | some h, some (_, _ :: _) => .pr h off
    | _, _ => .dead
  | _ => .dead
def boxWR (m : List (Nat × Nat)) (bs0 : Boxes) (B : Nat) : List (Nat × Nat) → Boxes → List (Nm × C)
  | (h, _) :: r, (ty, xs) :: bs => (.box h, if xs.isEmpty then .none else .box ty (xs.map (backR m bs0 B))) :: boxWR m bs0 B r bs
  | _, _ => []
def rowsWL (B : Nat) : RowL → List (Nm × C)
  | [] => []
  | (k, ty, e, xs) :: r => (.row (B + k), .row ty e xs) :: rowsWL B r
/-- Which rows are lent. -/
def rowQ (mr : List (Nat × Nat)) : Tag → Bool
  | .row h => (fwd mr h).isSome
  | _ => false
/-- The callee's ghosts. -/
def Gh.rc (g : Gh) (m mr : List (Nat × Nat)) : Gh where
  o := fun b => match lentB g m b with
    | some k => .box k
    | none => match g.o b with
      | .row h => match fwd mr h with | some k => .row k | none => .other
      | .imm => .imm
      | _ => .other
  hd := fun k => match inv mr k with | some h => g.hd h | none => undef
  bk := fun k => match inv m k with | some h => g.bk h | none => 0
/-- Behind the call. -/
def Gh.ra (g : Gh) (m mr : List (Nat × Nat)) (bs : Boxes) (B : Nat) (g' : Gh) : Gh where
  o := fun b => if g.o b ≠ .other ∧ rowQ mr (g.o b) = false ∧ lostB g m bs b = false then g.o b else match g'.o b with | .row k => .row (B + k) | .imm => .imm | _ => .other
  hd := fun k => if B ≤ k ∧ k < B + 100 then g'.hd (k - B) else g.hd k
  bk := g.bk
theorem fwd_none {mr : List (Nat × Nat)} {k : Nat} (h : ¬ ∃ j ∈ mr.map (·.1), Nm.row k = .row j) : fwd mr k = none := by
  unfold fwd
  cases hq : mr.find? fun p => p.1 == k with
  | none => rfl
  | some p =>
    have h1 := List.mem_of_find?_eq_some hq
    have h2 := List.find?_some hq
    simp at h2
    exact absurd ⟨p.1, List.mem_map.2 ⟨p, h1, rfl⟩, by rw [h2]⟩ h
/-- The lent rows are no longer one's own. -/
theorem Rel.rlm {Γ nt a w g} (r : Rel Γ nt a w g) (mr : List (Nat × Nat)) : Rel (ups Γ (frzW (mr.map (·.1)))) nt a w (g.rl (rowQ mr)) := by
  have hp : rowQ mr .imm = false := rfl
  refine ⟨r.size, r.df, fun b hb => r.tags b fun e => hb (by simp [Gh.rl, e]), r.gl.keep fun q => ⟨rfl, by simp [Gh.rl, q, hp]⟩, fun n => ?_⟩
  rw [ups_frzW]
  split
  · cases n <;> trivial
  · rename_i hn
    have hc := r.cr n
    cases n with
    | t i => cases hg : Γ (.t i) <;> rw [hg] at hc <;> first | trivial | exact rl_xr hp hc
    | row k =>
      cases hg : Γ (.row k) <;> rw [hg] at hc <;> first | trivial | skip
      obtain ⟨m, vs, h1, h2, h3, h4⟩ := hc
      refine ⟨m, vs, h1, h2, h3.imp (fun q => ⟨q.1, fun b hb => ?_⟩) id, h4.mono fun _ _ => rl_svr hp⟩
      simp [Gh.rl, q.2 b hb, rowQ, fwd_none hn]
    | box k =>
      cases hg : Γ (.box k) <;> rw [hg] at hc <;> first | trivial | skip
      obtain ⟨cur, h1, h2, h3⟩ := hc
      exact ⟨cur, h1, by simp [Gh.rl, h2, rowQ], h3.mono fun _ _ => rl_tvr hp⟩
theorem rel_rowsWL {nt a w g B} : ∀ {rs : RowL} {Γ : Nm → C}, Rel Γ nt a w g → (∀ x ∈ rs, RowR w g (B + x.1) x.2.1 x.2.2.1 x.2.2.2) → Rel (ups Γ (rowsWL B rs)) nt a w g
  | [], Γ, r, _ => r
  | (k, ty, e, xs) :: rest, Γ, r, h => by
    simp only [rowsWL, ups]
    exact Rel.upd (rel_rowsWL r fun x hx => h x (List.mem_cons_of_mem _ hx)) (h _ (List.mem_cons_self ..))
section
variable {m mr : List (Nat × Nat)} (hm : mOk m = true) (hmr : mOk mr = true)
include hm
theorem rc_imm {w : World} {g : Gh} (hl : Lent w g m) {b : Nat} (hb : g.o b = .imm) : (g.rc m mr).o b = .imm := by
  simp only [Gh.rc]
  cases hq : lentB g m b with
  | some k => obtain ⟨h', _, _, h3, _⟩ := lentB_some hm hl hq; rw [hb] at h3; cases h3
  | none => simp [hb]
theorem rc_svr {w : World} {g : Gh} (hl : Lent w g m) {v : Value} {x : SV} (r : SVR w g.o v x) : SVR w (g.rc m mr).o v x := r.mono fun b hb => ⟨rc_imm hm hl hb, rfl⟩
theorem rc_bk {g : Gh} {h k} (hk : fwd m h = some k) : (g.rc m mr).bk k = g.bk h := by simp [Gh.rc, fwd_inv hm hk]
theorem rc_bks {g : Gh} : ∀ {hs ks : List Nat}, fwds m hs = some ks → (hs.map fun h => Value.pointer (some ⟨g.bk h, 0, none⟩)) = ks.map fun h => Value.pointer (some ⟨(g.rc m mr).bk h, 0, none⟩)
  | [], ks, h => by simp [fwds] at h; subst h; rfl
  | h :: hs, ks, hk => by
    simp only [fwds] at hk
    split at hk
    · rename_i k ks' e1 e2
      cases hk
      simp only [List.map_cons, rc_bk hm e1, rc_bks e2]
    · cases hk
variable {Γ Δ : Nm → C} {nt : Nat} {a : Act} {w w' : World} {g g' : Gh} {hs : List Nat}
theorem cellBr_rel (hl : Lent w (g.frz hs) m) (r : Rel Δ nt a w g) {u : Value} {x y hs0} (h : cellB Γ m x = some (y, hs0)) (hr : ∀ k ∈ hs0, Δ (.row k) = Γ (.row k)) (hsub : ∀ k ∈ hs0, k ∈ hs) (hx : TVR w g u x) : TVR w ((g.frz hs).rc m mr) u y := by
  have key : ∀ x : TV, (frzT Γ x).map (fun p => (TV.v p.1, p.2)) = some (y, hs0) → TVR w g u x → TVR w ((g.frz hs).rc m mr) u y := fun x h hx => by
    obtain ⟨⟨s, hs1⟩, h1, h2⟩ := Option.map_eq_some_iff.1 h
    cases h2
    exact rc_svr hm hl (frzT_rel r h1 hr hsub hx)
  unfold cellB at h
  split at h
  · rename_i h' off
    obtain ⟨k, h1, h2⟩ := Option.map_eq_some_iff.1 h
    cases h2
    show u = _
    rw [rc_bk hm h1]
    exact hx
  · rename_i f hs'
    obtain ⟨ks, h1, h2⟩ := Option.map_eq_some_iff.1 h
    cases h2
    refine (show u = _ from hx).trans ?_
    rw [← rc_bks hm (g := g.frz hs) h1]
    rfl
  · cases h; trivial
  · exact key _ h hx
include hmr
theorem cellR_rel (hl : Lent w (g.frz hs) m) (r : Rel Δ nt a w g) {u : Value} {x y hs0} (h : cellR Γ m mr x = some (y, hs0)) (hr : ∀ k ∈ hs0, Δ (.row k) = Γ (.row k)) (hsub : ∀ k ∈ hs0, k ∈ hs) (hx : TVR w g u x) : TVR w ((g.frz hs).rc m mr) u y := by
  unfold cellR at h
  split at h
  · rename_i h'
    split at h
    · rename_i k hk
      cases h
      refine (show u = _ from hx).trans ?_
      show g.hd h' = ((g.frz hs).rc m mr).hd k
      simp only [Gh.rc, fwd_inv hmr hk, Gh.frz]
    · cases h
  · exact cellBr_rel hm hl r h hr hsub hx
theorem cellsR_rel (hl : Lent w (g.frz hs) m) (r : Rel Δ nt a w g) : ∀ {us : List Value} {xs ys hs0}, cellsR Γ m mr xs = some (ys, hs0) → (∀ k ∈ hs0, Δ (.row k) = Γ (.row k)) → (∀ k ∈ hs0, k ∈ hs) → All2 (TVR w g) us xs → All2 (TVR w ((g.frz hs).rc m mr)) us ys := by
  intro us xs
  induction xs generalizing us with
  | nil =>
    intro ys hs0 h _ _ ha
    simp [cellsR] at h
    obtain ⟨rfl, rfl⟩ := h
    cases us with
    | nil => exact .nil
    | cons u us => have := ha.1; simp at this
  | cons x xs ih =>
    intro ys hs0 h hr hsub ha
    cases us with
    | nil => have := ha.1; simp at this
    | cons u us =>
      simp only [cellsR] at h
      split at h
      · rename_i y h1 ys' h2 e1 e2
        cases h
        exact .cons (cellR_rel hm hmr hl r e1 (fun k hk => hr k (by simp [hk])) (fun k hk => hsub k (by simp [hk])) ha.head) (ih e2 (fun k hk => hr k (by simp [hk])) (fun k hk => hsub k (by simp [hk])) ha.tail)
      · cases h
omit hmr in
theorem byBr_rel (hl : Lent w (g.frz hs) m) (r : Rel Δ nt a w g) {u : Value} {x y hs0} (h : byB Γ m x = some (y, hs0)) (hr : ∀ k ∈ hs0, Δ (.row k) = Γ (.row k)) (hsub : ∀ k ∈ hs0, k ∈ hs) (hx : XR w g u x) : XR w ((g.frz hs).rc m mr) u y := by
  have key : ∀ {us : List Value} {xs ys hs0}, cellsB Γ m xs = some (ys, hs0) → (∀ k ∈ hs0, Δ (.row k) = Γ (.row k)) → (∀ k ∈ hs0, k ∈ hs) → All2 (TVR w g) us xs → All2 (TVR w ((g.frz hs).rc m mr)) us ys := by
    intro us xs
    induction xs generalizing us with
    | nil =>
      intro ys hs0 h _ _ ha
      simp [cellsB] at h
      obtain ⟨rfl, rfl⟩ := h
      cases us with
      | nil => exact .nil
      | cons u us => have := ha.1; simp at this
    | cons x xs ih =>
      intro ys hs0 h hr hsub ha
      cases us with
      | nil => have := ha.1; simp at this
      | cons u us =>
        simp only [cellsB] at h
        split at h
        · rename_i y h1 ys' h2 e1 e2
          cases h
          exact .cons (cellBr_rel hm hl r e1 (fun k hk => hr k (by simp [hk])) (fun k hk => hsub k (by simp [hk])) ha.head) (ih e2 (fun k hk => hr k (by simp [hk])) (fun k hk => hsub k (by simp [hk])) ha.tail)
        · cases h
  unfold byB at h
  split at h
  · obtain ⟨⟨s, hs1⟩, h1, h2⟩ := Option.map_eq_some_iff.1 h
    cases h2
    exact cellBr_rel hm hl r h1 hr hsub hx
  · obtain ⟨⟨s, hs1⟩, h1, h2⟩ := Option.map_eq_some_iff.1 h
    cases h2
    obtain ⟨cs, hv, hall⟩ := hx
    exact ⟨cs, hv, key h1 hr hsub hall⟩
  · cases h
omit hmr in
theorem argsBr_rel (hl : Lent w (g.frz hs) m) (r : Rel Δ nt a w g) {T : Tab} : ∀ {xs : List Operand} {ts ys hs0}, argsB T Γ m ts xs = some (ys, hs0) → (∀ n ∈ xs.flatMap opR, Δ n = Γ n) → (∀ k ∈ hs0, Δ (.row k) = Γ (.row k)) → (∀ k ∈ hs0, k ∈ hs) →
    All2 (XR w ((g.frz hs).rc m mr)) (xs.map a.eval) ys := by
  intro xs
  induction xs with
  | nil => intro ts ys hs0 h _ _ _; simp [argsB] at h; obtain ⟨rfl, rfl⟩ := h; exact .nil
  | cons x xs ih =>
    intro ts ys hs0 h h1 h2 h3
    simp only [argsB] at h
    split at h
    · rename_i y e1 ys' e2 q1 q2
      cases h
      have hx := opX_rel r x
      rw [opX_congr (Γ := Γ) fun n hn => h1 n (by simp [hn])] at hx
      exact .cons (byBr_rel hm hl r q1 (fun k hk => h2 k (by simp [hk])) (fun k hk => h3 k (by simp [hk])) (nlAs_rel hx)) (ih q2 (fun n hn => h1 n (by simp only [List.flatMap_cons, List.mem_append]; exact .inr hn)) (fun k hk => h2 k (by simp [hk])) (fun k hk => h3 k (by simp [hk])))
    · cases h
end
theorem boxesR_get {Γ : Nm → C} {m mr : List (Nat × Nat)} : ∀ {l : List (Nat × Nat)} {bs hs}, boxesR Γ m mr l = some (bs, hs) → bs.length = l.length ∧ ∀ (j : Nat) p, l[j]? = some p → ∃ ty xs ys hs1, Γ (.box p.1) = .box ty xs ∧ cellsR Γ m mr xs = some (ys, hs1) ∧ bs[j]? = some (ty, ys) ∧ ∀ k ∈ hs1, k ∈ hs
  | [], bs, hs, h => by simp [boxesR] at h; obtain ⟨rfl, rfl⟩ := h; exact ⟨rfl, fun j p hj => by simp at hj⟩
  | (a, b) :: l, bs, hs, h => by
    simp only [boxesR] at h
    split at h
    · rename_i ty xs hb
      split at h
      · rename_i ys h1 bs' h2 e1 e2
        cases h
        obtain ⟨q1, q2⟩ := boxesR_get e2
        refine ⟨by simp [q1], fun j p hj => ?_⟩
        cases j with
        | zero => simp at hj; subst hj; exact ⟨ty, xs, ys, h1, hb, e1, rfl, fun k hk => by simp [hk]⟩
        | succ j =>
          obtain ⟨ty', xs', ys', hs1, p1, p2, p3, p4⟩ := q2 j p (by simpa using hj)
          exact ⟨ty', xs', ys', hs1, p1, p2, by simpa using p3, fun k hk => by simp [p4 k hk]⟩
      · cases h
    · cases h
theorem rowsR_get {Γ : Nm → C} : ∀ {l : List (Nat × Nat)} {rs}, rowsR Γ l = some rs → ∀ x ∈ rs, ∃ h, (h, x.1) ∈ l ∧ Γ (.row h) = .row x.2.1 x.2.2.1 x.2.2.2
  | [], rs, h => by simp [rowsR] at h; subst h; simp
  | (a, b) :: l, rs, h => by
    simp only [rowsR] at h
    split at h
    · rename_i ty e xs rs' e1 e2
      cases h
      intro x hx
      rcases List.mem_cons.1 hx with rfl | hx
      · exact ⟨a, List.mem_cons_self .., e1⟩
      · obtain ⟨h, q1, q2⟩ := rowsR_get e2 x hx
        exact ⟨h, List.mem_cons_of_mem _ q1, q2⟩
    · cases h
section
variable {m mr : List (Nat × Nat)} (hm : mOk m = true)
variable {Γ Δ : Nm → C} {nt : Nat} {a : Act} {w w' : World} {g g' : Gh} {hs : List Nat}
include hm
/-- Behind a call that returns. -/
theorem callR_ret {i : Nat} (r : Rel Δ nt a w g) (hl : Lent w g m) (hnum : numb 0 m = true) (hu : ∀ k, isTh i k → Unm Δ k) {res : X} {bs : Boxes} {rs : RowL} {v : Value}
    (hf : Fr w w' (g.rc m mr).o g'.o) (hlt : ∀ b, g'.o b ≠ .other → b < w'.heap.size) (hk : res.all TV.res = true) (hsz : res.all (TV.small 90) = true) (hlen : bs.length = m.length) (hlent : ∀ b ∈ bs, ∀ x ∈ b.2, x.lentR = true) (hrs : ∀ x ∈ rs, x.1 < 90)
    (hx : XR w' g' v res) (hbs : ∀ k ty xs, bs[k]? = some (ty, xs) → xs ≠ [] → BoxR w' g' k ty xs ∧ g'.bk k = (g.rc m mr).bk k) (hrows : ∀ x ∈ rs, RowR w' g' x.1 x.2.1 x.2.2.1 x.2.2.2) :
    Rel (ups Δ (boxWR m bs (th i 0) m bs ++ (rowsWL (th i 0) rs ++ (Go.Proofs.YtdpflafjfkooeaaGreatDoorG.noneW m ++ frzW (mr.map (·.1)))))) nt a w' (g.ra m mr bs (th i 0) g') ∧ Fr w w' g.o (g.ra m mr bs (th i 0) g').o ∧ XR w' (g.ra m mr bs (th i 0) g') v (res.sh (th i 0)) := by
  have hp2 : rowQ mr .other = false := rfl
  have hbx : ∀ h k, (h, k) ∈ m → ∃ ty xs, bs[k]? = some (ty, xs) ∧ (xs ≠ [] → BoxR w' g' k ty xs ∧ g'.bk k = g.bk h) := fun h k hmem => by
    obtain ⟨_, q2, q3⟩ := numb_at hnum hmem
    have hkl : k < bs.length := by omega
    refine ⟨_, _, List.getElem?_eq_getElem hkl, fun hne => ?_⟩
    obtain ⟨p1, p2⟩ := hbs k _ _ (List.getElem?_eq_getElem hkl) hne
    exact ⟨p1, p2.trans (rc_bk hm (fwd_mem hm hmem))⟩
  have hlk : ∀ b k, lentB g m b = some k → lostB g m bs b = false → g'.o b = .box k := fun b k hq hlo => by
    obtain ⟨h', h1, h2, h3, h4⟩ := lentB_some hm hl hq
    obtain ⟨ty, xs, q1, q2⟩ := hbx h' k h1
    have hne : xs ≠ [] := fun e => by
      subst e
      simp [lostB, hq, q1] at hlo
    obtain ⟨⟨cur, p1, p2, p3⟩, p4⟩ := q2 hne
    rw [p4, h2] at p2
    exact p2
  have hlo : ∀ b, lentB g m b = none → lostB g m bs b = false := fun b hq => by simp [lostB, hq]
  have hrcN : ∀ b, lentB g m b = none → rowQ mr (g.o b) = false → (g.rc m mr).o b = if g.o b = .imm then .imm else .other := fun b hq hp => by
    simp only [Gh.rc, hq]
    cases ho : g.o b with
    | row h =>
      rw [ho] at hp
      simp only [rowQ] at hp
      cases hfw : fwd mr h with
      | some k => rw [hfw] at hp; cases hp
      | none => simp [hfw]
    | _ => simp
  have hold : ∀ b, lentB g m b = none → rowQ mr (g.o b) = false → b < w.heap.size → w'.heap[b]? = w.heap[b]? ∧ g'.o b = if g.o b = .imm then .imm else .other := fun b hq hp hb => by
    have := hf.keep b hb (by rw [hrcN b hq hp]; split <;> simp)
    exact ⟨this.1, this.2.trans (hrcN b hq hp)⟩
  have hra : ∀ b, g.o b ≠ .other → rowQ mr (g.o b) = false → lostB g m bs b = false → (g.ra m mr bs (th i 0) g').o b = g.o b := fun b h1 h2 h3 => by simp [Gh.ra, h1, h2, h3]
  have hro : ∀ b, ¬ (g.o b ≠ .other ∧ rowQ mr (g.o b) = false ∧ lostB g m bs b = false) → (g.ra m mr bs (th i 0) g').o b = match g'.o b with | .row k => .row (th i 0 + k) | .imm => .imm | _ => .other := fun b hb => by simp only [Gh.ra]; rw [if_neg hb]
  have himm : ∀ b, g'.o b = .imm → (g.ra m mr bs (th i 0) g').o b = .imm := fun b hb => by
    by_cases ho : g.o b ≠ .other ∧ rowQ mr (g.o b) = false ∧ lostB g m bs b = false
    · rw [hra b ho.1 ho.2.1 ho.2.2]
      cases hq : lentB g m b with
      | some k => rw [hlk b k hq ho.2.2] at hb; cases hb
      | none =>
        have := (hold b hq ho.2.1 (r.tags b ho.1)).2
        rw [hb] at this
        by_cases hi : g.o b = .imm
        · exact hi
        · rw [if_neg hi] at this; cases this
    · rw [hro b ho, hb]
  have hh : ∀ k, k < 100 → (g.ra m mr bs (th i 0) g').hd (th i 0 + k) = g'.hd k := fun k hk => by simp only [Gh.ra]; rw [if_pos (by omega)]; congr 1; omega
  have hl1 : Lent w (g.rl (rowQ mr)) m := fun p hp => by
    have := hl p hp
    show (g.rl (rowQ mr)).o (g.bk p.1) = _
    simp [Gh.rl, this, rowQ]
  have hlB : ∀ b, lentB (g.rl (rowQ mr)) m b = lentB g m b := fun _ => rfl
  have hgb : ∀ b, ((g.rl (rowQ mr)).rb m).o b ≠ .other → lentB g m b = none ∧ rowQ mr (g.o b) = false ∧ g.o b ≠ .other ∧ ((g.rl (rowQ mr)).rb m).o b = g.o b := fun b hb => by
    simp only [Gh.rb, hlB] at hb ⊢
    cases hq : lentB g m b with
    | some k => rw [hq] at hb; exact absurd rfl hb
    | none =>
      rw [hq] at hb
      simp only [Gh.rl] at hb ⊢
      split at hb
      · exact absurd rfl hb
      · rename_i hn
        exact ⟨by first | exact rfl | trivial, by simpa using hn, hb, if_neg hn⟩
  have r1 := (r.rlm mr).rbr hm hl1
  have hnotth : ∀ k, ¬ Unm (ups (ups Δ (frzW (mr.map (·.1)))) (Go.Proofs.YtdpflafjfkooeaaGreatDoorG.noneW m)) k → ¬ (th i 0 ≤ k ∧ k < th i 0 + 100) := fun k hk hc => hk (by
    have hd := hu k (by unfold isTh; unfold th at hc; omega)
    intro n
    rw [ups_noneW]
    split
    · exact ⟨id, fun _ => rfl⟩
    · rw [ups_frzW]
      split
      · exact ⟨id, fun _ => rfl⟩
      · exact hd n)
  have ext : Ext w w' ((g.rl (rowQ mr)).rb m) (g.ra m mr bs (th i 0) g') none fun k => ¬ Unm (ups (ups Δ (frzW (mr.map (·.1)))) (Go.Proofs.YtdpflafjfkooeaaGreatDoorG.noneW m)) k :=
    ⟨hf.size, fun b hb _ => by
        obtain ⟨q1, q2, q3, q4⟩ := hgb b hb
        exact ⟨(hold b q1 q2 (r.tags b q3)).1, by rw [hra b q3 q2 (hlo b q1), q4]⟩,
      fun b hb => by
        by_cases ho : g.o b ≠ .other ∧ rowQ mr (g.o b) = false ∧ lostB g m bs b = false
        · exact Nat.lt_of_lt_of_le (r.tags b ho.1) hf.size
        · refine hlt b fun e => hb ?_
          rw [hro b ho, e],
      fun k hk => by simp only [Gh.ra]; rw [if_neg (hnotth k hk)]; rfl, fun k _ => rfl⟩
  have r2 : Rel (ups (ups (ups Δ (frzW (mr.map (·.1)))) (Go.Proofs.YtdpflafjfkooeaaGreatDoorG.noneW m)) (rowsWL (th i 0) rs)) nt a w' (g.ra m mr bs (th i 0) g') := rel_rowsWL (r1.ext ext) fun x hxr => by
    obtain ⟨n, vs, he, hn, ho', hall⟩ := hrows x hxr
    have hx90 := hrs x hxr
    refine ⟨n, vs, he, hn, ?_, hall.mono fun u x q => q.mono fun b hb => ⟨himm b hb, rfl⟩⟩
    unfold OwnR
    rw [hh x.1 (by omega)]
    rcases ho' with ⟨ho, htag⟩ | hz
    case inr => exact .inr hz
    refine .inl ⟨ho, fun b hb => ?_⟩
    have ht' := htag b hb
    have hnl : ¬ (g.o b ≠ .other ∧ rowQ mr (g.o b) = false ∧ lostB g m bs b = false) := fun hc => by
      cases hq : lentB g m b with
      | some k => rw [hlk b k hq hc.2.2] at ht'; cases ht'
      | none =>
        have := (hold b hq hc.2.1 (r.tags b hc.1)).2
        rw [ht'] at this
        split at this <;> cases this
    rw [hro b hnl, ht']
  have htv : ∀ (u : Value) (x : TV), x.lentR = true → TVR w' g' u x → TVR w' (g.ra m mr bs (th i 0) g') u (backR m bs (th i 0) x) := fun u x hx hr => by
    cases x with
    | v y => exact SVR.mono (fun b hb => ⟨himm b hb, rfl⟩) hr
    | sr k =>
      simp [TV.lentR] at hx
      have hr' : u = g'.hd k := hr
      show u = (g.ra m mr bs (th i 0) g').hd (th i 0 + k)
      rw [hh k (by omega)]; exact hr'
    | pr k off =>
      simp only [backR]
      split
      · rename_i h ty0 x0 xs0 hq hb0
        have hmem : (h, k) ∈ m := by
          unfold inv at hq
          obtain ⟨p, hp, rfl⟩ := Option.map_eq_some_iff.1 hq
          have h1 := List.mem_of_find?_eq_some hp
          have h2 := List.find?_some hp
          simp at h2
          rw [← h2]; exact h1
        obtain ⟨ty, xs, q0, q1⟩ := hbx h k hmem
        rw [hb0] at q0
        cases q0
        obtain ⟨_, e2⟩ := q1 (by simp)
        show u = _
        have hr' : u = _ := hr
        rw [hr', e2]; rfl
      · trivial
    | dead => trivial
    | _ => simp [TV.lentR] at hx
  have r3 : ∀ (l : List (Nat × Nat)) (bl : Boxes) (n : Nat), (∀ j p, l[j]? = some p → m[n + j]? = some p) → (∀ j b, bl[j]? = some b → bs[n + j]? = some b) → Rel (ups (ups (ups (ups Δ (frzW (mr.map (·.1)))) (Go.Proofs.YtdpflafjfkooeaaGreatDoorG.noneW m)) (rowsWL (th i 0) rs)) (boxWR m bs (th i 0) l bl)) nt a w' (g.ra m mr bs (th i 0) g') := by
    intro l
    induction l with
    | nil => intro bl n _ _; cases bl <;> exact r2
    | cons p l ih =>
      intro bl n h1 h2
      cases bl with
      | nil => exact r2
      | cons b bl =>
        obtain ⟨h, k⟩ := p
        obtain ⟨ty, xs⟩ := b
        simp only [boxWR, ups]
        refine (ih bl (n + 1) (fun j p hj => by have := h1 (j + 1) p (by simpa using hj); rwa [show n + (j + 1) = n + 1 + j by omega] at this) (fun j b hj => by have := h2 (j + 1) b (by simpa using hj); rwa [show n + (j + 1) = n + 1 + j by omega] at this)).upd ?_
        have e1 := h1 0 _ rfl
        have e2 := h2 0 _ rfl
        rw [Nat.add_zero] at e1 e2
        have e3 := numb_ix hnum e1
        simp only [Nat.zero_add] at e3
        have hmem := List.mem_of_getElem? e1
        subst e3
        obtain ⟨ty', xs', q0, hq'⟩ := hbx h k hmem
        rw [e2] at q0
        cases q0
        by_cases hem : xs = []
        · subst hem; simp only [List.isEmpty_nil, if_true]; trivial
        rw [if_neg (by simpa using hem)]
        obtain ⟨⟨cur, q1, q2, q3⟩, q4⟩ := hq' hem
        have hb : g.o (g.bk h) = .box h := hl _ hmem
        have hlost : lostB g m bs (g.bk h) = false := by
          have := lentB_in (g := g) hm hl hmem
          simp [lostB, this, e2, hem]
        refine ⟨cur, by rw [show (g.ra m mr bs (th i 0) g').bk h = g.bk h from rfl, ← q4]; exact q1, by
          show (g.ra m mr bs (th i 0) g').o (g.bk h) = _
          rw [hra _ (by rw [hb]; simp) (by rw [hb]; rfl) hlost]; exact hb, by simp [q3.1], fun j u y p1 p2 => ?_⟩
        rw [List.getElem?_map] at p2
        cases hz : xs[j]? with
        | none => simp [hz] at p2
        | some z =>
          simp [hz] at p2
          subst p2
          exact htv u z (hlent _ (List.mem_of_getElem? e2) z (List.mem_of_getElem? hz)) (q3.2 j u z p1 hz)
  have r4 := r3 m bs 0 (fun j p hj => by simpa using hj) (fun j b hj => by simpa using hj)
  rw [← ups_append, ← ups_append, ← ups_append] at r4
  simp only [List.append_assoc] at r4
  refine ⟨r4, ⟨hf.os, hf.tape, hf.output, hf.size, fun b hb ho => ?_, fun b hb ⟨k, hk⟩ => ?_⟩, sh_xr himm hh hk hsz hx⟩
  · have hq : lentB g m b = none := by
      cases hq : lentB g m b with
      | some k => obtain ⟨h', _, _, h3, _⟩ := lentB_some hm hl hq; rcases ho with ho | ho <;> rw [ho] at h3 <;> cases h3
      | none => rfl
    have hp : rowQ mr (g.o b) = false := by rcases ho with ho | ho <;> rw [ho] <;> rfl
    obtain ⟨q1, q2⟩ := hold b hq hp hb
    refine ⟨q1, ?_⟩
    rcases ho with ho | ho
    · rw [hro b (fun h => h.1 ho), q2, ho]; rfl
    · exact hra b (by rw [ho]; simp) hp (hlo b hq)
  · constructor
    · by_cases ho : g.o b ≠ .other ∧ rowQ mr (g.o b) = false ∧ lostB g m bs b = false
      · rw [hra b ho.1 ho.2.1 ho.2.2, hk]; rfl
      · rw [hro b ho]
        cases hq : lentB g m b with
        | some j =>
          have := (hf.bx b hb ⟨j, by simp [Gh.rc, hq]⟩).1
          revert this
          cases g'.o b <;> simp [Tag.nr]
        | none => exact absurd ⟨by rw [hk]; simp, by rw [hk]; rfl, hlo b hq⟩ ho
    · cases hq : lentB g m b with
      | some j => exact (hf.bx b hb ⟨j, by simp [Gh.rc, hq]⟩).2
      | none => exact Shp.of_eq (hold b hq (by rw [hk]; rfl) hb).1
/-- Behind a call that panics. -/
theorem callR_pan (r : Rel Δ nt a w g) (hl : Lent w g m) {o' : Nat → Tag} (hf : Fr w w' (g.rc m mr).o o') : Fr w w' g.o ((g.rl (rowQ mr)).rb m).o ∧ ∀ b, ((g.rl (rowQ mr)).rb m).o b ≠ .other → b < w'.heap.size := by
  have hgb : ∀ b, ((g.rl (rowQ mr)).rb m).o b = match lentB g m b with | some _ => .other | none => if rowQ mr (g.o b) = true then .other else g.o b := fun b => rfl
  have hold : ∀ b, lentB g m b = none → (g.o b = .other ∨ g.o b = .imm) → b < w.heap.size → w'.heap[b]? = w.heap[b]? := fun b hq ho hb => (hf.keep b hb (by simp only [Gh.rc, hq]; rcases ho with ho | ho <;> simp [ho])).1
  refine ⟨⟨hf.os, hf.tape, hf.output, hf.size, fun b hb ho => ?_, fun b hb ⟨k, hk⟩ => ?_⟩, fun b hb => ?_⟩
  · have hq : lentB g m b = none := by
      cases hq : lentB g m b with
      | some k => obtain ⟨h', _, _, h3, _⟩ := lentB_some hm hl hq; rcases ho with ho | ho <;> rw [ho] at h3 <;> cases h3
      | none => rfl
    refine ⟨hold b hq ho hb, ?_⟩
    rw [hgb, hq]
    rcases ho with ho | ho <;> simp [ho, rowQ]
  · constructor
    · rw [hgb]
      cases hq : lentB g m b with
      | some j => rfl
      | none => simp [hk, rowQ, Tag.nr]
    · cases hq : lentB g m b with
      | some j => exact (hf.bx b hb ⟨j, by simp [Gh.rc, hq]⟩).2
      | none => exact Shp.of_eq (hf.keep b hb (by simp [Gh.rc, hq, hk])).1
  · have : g.o b ≠ .other := fun e => hb (by rw [hgb]; cases lentB g m b <;> simp [e, rowQ])
    exact Nat.lt_of_lt_of_le (r.tags b this) hf.size
end
def vCallRx (T : Tab) (O : Orc) (Γ : Nm → C) (i : Nat) (o : Oper) (rd0 : List Nm) (f : Nat) (ts : List Nat) (xs : List Operand) (K : List Nm → List (Nm × C) → Prop) : Prop :=
  match bxM T Γ ts xs with
  | m => match rwM Γ m with
    | mr => mOk m = true ∧ numb 0 m = true ∧ mOk mr = true ∧ match argsB T Γ m ts xs, boxesR Γ m mr m, rowsR Γ mr with
      | some (ys, h1), some (bs, h2), some rs => ((h1 ++ h2).all fun h => (fwd mr h).isNone) = true ∧ O.r f bs rs ys fun out => match out with
        | .ret res bs' rs' => K (rd0 ++ (xs.flatMap opR ++ (m.map (fun p => Nm.box p.1) ++ (mr.map (fun p => Nm.row p.1) ++ (h1 ++ h2).map .row)))) (putT o.dst (res.sh (th i 0)) ++ (boxWR m bs' (th i 0) m bs' ++ (rowsWL (th i 0) rs' ++ (noneW m ++ (frzW (mr.map (·.1)) ++ frzW (h1 ++ h2))))))
        | .pan v => K (rd0 ++ (xs.flatMap opR ++ (m.map (fun p => Nm.box p.1) ++ (mr.map (fun p => Nm.row p.1) ++ (h1 ++ h2).map .row)))) (pan v)
      | _, _, _ => False
theorem unm_frzW {Δ : Nm → C} {hs : List Nat} {k : Nat} (h : Unm Δ k) : Unm (ups Δ (frzW hs)) k := by
  intro n
  rw [ups_frzW]
  split
  · exact ⟨id, fun _ => rfl⟩
  · exact h n
theorem vCallRx_ok {P : Program} {T : Tab} {O : Orc} {Γ : Nm → C} {nt i : Nat} {o : Oper} {c : Call} {f : Nat} {K : List Nm → List (Nm × C) → Prop} {cx : Operand} {rd0 : List Nm} (hO : OrcOk P O) (hd : dOk nt o) (ho : o.op = .call c) (hc : c.callee = .value cx) (hcal : ∀ (Δ : Nm → C) (a : Act) w g, (∀ n ∈ rd0, Δ n = Γ n) → Rel Δ nt a w g → a.eval cx = .func (.func f) #[] #[])
    (h : vCallRx T O Γ i o rd0 f c.argTypes.toList c.args.toList K) : Good2 P nt i o Γ K := by
  unfold vCallRx at h
  generalize bxM T Γ c.argTypes.toList c.args.toList = m at h
  simp only [] at h
  generalize rwM Γ m = mr at h
  obtain ⟨hm, hnum, hmr, h⟩ := h
  split at h
  case h_2 => exact h.elim
  rename_i ys h1 bs h2 rs hargs hboxes hrowsL
  obtain ⟨hdis, h⟩ := h
  obtain ⟨out, hcall, h⟩ := hO.r _ _ _ _ _ h
  have hbget := boxesR_get hboxes
  have hrget := rowsR_get hrowsL
  have hcore : ∀ (Δ : Nm → C) (a : Act) (w : World) (g : Gh) Q K', (∀ n ∈ rd0 ++ (c.args.toList.flatMap opR ++ (m.map (fun p => Nm.box p.1) ++ (mr.map (fun p => Nm.row p.1) ++ (h1 ++ h2).map .row))), Δ n = Γ n) → Rel Δ nt a w g →
      (∀ e w', Lent w (g.frz (h1 ++ h2)) m → out.post w ((g.frz (h1 ++ h2)).rc m mr) e w' → match e with | .returned v => K' (a.put o.dst v) w' | .panicked ch => Q (.panic ch) a w' | .outgrown => False) → o.wp P a w K' Q := fun Δ a w g Q K' hr r hk => by
    have hrow : ∀ k ∈ h1 ++ h2, Δ (.row k) = Γ (.row k) := fun k hk => hr _ (by simp only [List.mem_append, List.mem_map] at hk ⊢; exact .inr (.inr (.inr (.inr ⟨k, hk, rfl⟩))))
    have hrow2 : ∀ p ∈ mr, Δ (.row p.1) = Γ (.row p.1) := fun p hp => hr _ (by simp only [List.mem_append, List.mem_map]; exact .inr (.inr (.inr (.inl ⟨p, hp, rfl⟩))))
    have hbox : ∀ p ∈ m, Δ (.box p.1) = Γ (.box p.1) := fun p hp => hr _ (by simp only [List.mem_append, List.mem_map]; exact .inr (.inr (.inl ⟨p, hp, rfl⟩)))
    have hcx := hcal Δ a w g (fun n hn => hr n (List.mem_append_left _ hn)) r
    have hl : Lent w (g.frz (h1 ++ h2)) m := fun p hp => by
      obtain ⟨j, hj⟩ := List.mem_iff_getElem?.1 hp
      obtain ⟨ty, xs, _, _, q1, _⟩ := hbget.2 j p hj
      obtain ⟨cur, e1, e2, e3⟩ := r.box (h := p.1) (by rw [hbox p hp, q1])
      show (g.frz (h1 ++ h2)).o (g.bk p.1) = _
      simp [Gh.frz, e2]
    have harg := argsBr_rel (mr := mr) hm hl r hargs (fun n hn => hr n (List.mem_append_right _ (List.mem_append_left _ hn))) (fun k hk => hrow k (by simp [hk])) (fun k hk => by simp [hk])
    have hlt : ∀ b, (g.frz (h1 ++ h2)).o b ≠ .other → b < w.heap.size := fun b hb => r.tags b fun e => hb (frz_other.2 e)
    have hcl := hcall.calls w (c.args.toList.map a.eval) ((g.frz (h1 ++ h2)).rc m mr) (fun b hb => by
      refine hlt b fun e => hb ?_
      simp only [Gh.rc]
      cases hq : lentB (g.frz (h1 ++ h2)) m b with
      | some k => obtain ⟨h', _, _, h3, _⟩ := lentB_some hm hl hq; rw [e] at h3; cases h3
      | none => simp [e]) (r.gl.keep fun q => ⟨rfl, rc_imm hm hl (by simp [Gh.frz, q])⟩) harg (fun k ty ys' hk => by
      have hklt : k < m.length := by rw [← hbget.1]; exact (List.getElem?_eq_some_iff.1 hk).1
      have hmk : m[k]? = some m[k] := List.getElem?_eq_getElem hklt
      obtain ⟨ty', xs, ys'', hs1, q1, q2, q3, q4⟩ := hbget.2 k m[k] hmk
      rw [hk] at q3
      cases q3
      have hmem : m[k] ∈ m := List.getElem_mem hklt
      have hix : m[k].2 = k := by have := numb_ix hnum hmk; omega
      obtain ⟨cur, e1, e2, e3⟩ := r.box (h := m[k].1) (by rw [hbox _ hmem, q1])
      have hfw : fwd m m[k].1 = some k := by
        have := fwd_mem hm (h := m[k].1) (k := m[k].2) hmem
        rwa [hix] at this
      have hbk : ((g.frz (h1 ++ h2)).rc m mr).bk k = g.bk m[k].1 := rc_bk hm hfw
      refine ⟨cur, by rw [hbk]; exact e1, ?_, cellsR_rel hm hmr hl r q2 (fun j hj => hrow j (by simp [q4 j hj])) (fun j hj => by simp [q4 j hj]) e3⟩
      rw [hbk]
      have hlb : lentB (g.frz (h1 ++ h2)) m (g.bk m[k].1) = some m[k].2 := lentB_in (g := g.frz (h1 ++ h2)) hm hl hmem
      simp only [Gh.rc]
      rw [hlb, hix]) (fun x hx => by
      obtain ⟨hh, hmem, hrw⟩ := hrget x hx
      obtain ⟨n, vs, he, hn, ho', hall⟩ := r.row (h := hh) (by rw [hrow2 _ hmem, hrw])
      have hfw : fwd mr hh = some x.1 := fwd_mem hmr hmem
      have hnf : hh ∉ h1 ++ h2 := fun hin => by
        have := List.all_eq_true.1 hdis hh hin
        rw [hfw] at this; cases this
      have hhd : ((g.frz (h1 ++ h2)).rc m mr).hd x.1 = g.hd hh := by simp only [Gh.rc, fwd_inv hmr hfw, Gh.frz]
      refine ⟨n, vs, he, hn, ?_, hall.mono fun u y q => rc_svr hm hl (q.mono fun b hb => ⟨frz_imm hb, rfl⟩)⟩
      unfold OwnR
      rw [hhd]
      refine ho'.imp (fun q => ⟨q.1, fun b hb => ?_⟩) id
      have ht := q.2 b hb
      have hf1 : (g.frz (h1 ++ h2)).o b = .row hh := by simp only [Gh.frz, ht, if_neg hnf]
      have hnl : lentB (g.frz (h1 ++ h2)) m b = none := by
        cases hq : lentB (g.frz (h1 ++ h2)) m b with
        | some k => obtain ⟨h', _, _, h3, _⟩ := lentB_some hm hl hq; rw [hf1] at h3; cases h3
        | none => rfl
      simp only [Gh.rc, hnl, hf1, hfw])
    unfold Oper.wp
    have hexec : (execOp a.eval o).run P w = .ok (.enter f (c.args.map a.eval)) w := by
      have := hcall.callable (c.args.map a.eval) w
      have e1 : execOp a.eval o = (do let d ← resolve a.eval c o.type; invoke d.target d.args) := by simp only [execOp, ho]
      have e2 : (resolve a.eval c o.type).run P w = .ok { target := .fn (.func f) #[], args := c.args.map a.eval } w := by
        unfold resolve
        rw [hc]
        simp only [hcx]
        show (Deferred.ofValue (.func (.func f) #[] #[]) (c.args.map a.eval)).run P w = _
        simp [Deferred.ofValue]
      rw [e1, run_bind_ok e2]
      unfold invoke
      simpa using this
    rw [hexec]
    show Calls P f (c.args.map a.eval) w _
    have e : (c.args.toList.map a.eval).toArray = c.args.map a.eval := by rw [← Array.toList_map]
    rw [e] at hcl
    refine hcl.mono fun en w' hh => ?_
    have := hk en w' hl hh
    cases en with
    | returned v => exact this
    | panicked ch => exact this
    | outgrown => exact this.elim
  cases out with
  | ret res bs' rs' =>
    obtain ⟨hk1, hk2, hk3, hk4, hk5⟩ := hcall.resok
    refine Good.x ⟨_, _, ?_, h⟩
    intro Δ a w g Q K' hr hu r hk
    refine hcore Δ a w g Q K' hr r fun e w' hl hpost => ?_
    obtain ⟨v, g', rfl, p1, p2, p3, p5, p6⟩ := hpost
    have r0 := r.frz (h1 ++ h2)
    obtain ⟨r2, f2, x2⟩ := callR_ret hm r0 hl hnum (fun k hk => unm_frzW (hu k hk)) p1 p2 hk1 hk2 (hk3.trans hbget.1) hk4 hk5 p3 p5 p6
    rw [← ups_append] at r2
    simp only [List.append_assoc] at r2
    exact hk _ _ _ (rel_putT' (Γ := Δ) hd r2 x2) ((Fr.frz w g _).trans f2)
  | pan v =>
    refine ⟨_, _, PanOk.x (v := v) ?_ rfl, h⟩
    intro Δ a w g Q K' hr hu r hk
    refine hcore Δ a w g Q K' hr r fun e w' hl hpost => ?_
    obtain ⟨rfl, o', p1⟩ := hpost
    obtain ⟨f2, t2⟩ := callR_pan hm (r.frz (h1 ++ h2)) hl p1
    exact hk w' _ t2 ((Fr.frz w g _).trans f2)
end Go.Proofs.YtdpflafjfkooeaaGreatDoorG
