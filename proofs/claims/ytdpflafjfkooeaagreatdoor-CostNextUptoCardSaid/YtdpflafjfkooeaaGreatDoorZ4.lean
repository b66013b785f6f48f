/- YtdpflafjfkooeaaGreatDoorZ4: a part of the proof, joined of its texts. -/
import Derived.Test.YtdpflafjfkooeaaGreatDoorZ3
/- G8: make, append, cuts of own rows. -/
namespace Go.Proofs.YtdpflafjfkooeaaGreatDoorG
open Go Go.RowKit
set_option linter.unusedVariables false
set_option linter.unusedSimpArgs false
/-! ### make -/
def vMake (T : Tab) (Γ : Nm → C) (i : Nat) (o : Oper) (t : Nat) (l c : Operand) (K : List Nm → List (Nm × C) → Prop) : Prop :=
  match T t with
  | some ⟨.slice el, _, _, _⟩ => match T el with
    | some ei => match ei.zero, opX Γ l, opX Γ c with
      | [z], .p (.one (.v (.raw (.int kl n)))), .p (.one (.v (.raw (.int kc m)))) => ei.size = 1 ∧ 0 ≤ n ∧ n ≤ m ∧ (ei.bytes : Int) * m ≤ 281474976710656 ∧ m ≤ 281474976710656 ∧
        K (opR l ++ opR c) (putT o.dst (.p (.one (.sr (th i 0)))) ++ [(.row (th i 0), .row el 1 (List.replicate n.toNat (zSV z)))])
      | _, _, _ => False
    | none => False
  | _ => False
theorem vMake_ok {P T Γ nt i o t l c K} (hT : Tok P T) (hd : dOk nt o) (ho : o.op = .makeSlice t l c) (h : vMake T Γ i o t l c K) : Good P nt i o Γ K := by
  unfold vMake at h
  split at h
  · rename_i el sz by' ze ht
    split at h
    · rename_i ei hei
      split at h
      · rename_i z kl n kc m hz hl hc
        obtain ⟨hs1, h0, hnm, hb, hm, h⟩ := h
        refine ⟨_, _, ?_, h⟩
        intro Δ a w g Q K' hr hu r hk
        have hti := hT el ei hei
        obtain ⟨j, zv, hj, hs, hb2, hz2, hc2⟩ := hti.info'
        have h1 := opX_rel r l
        rw [opX_congr (Γ := Γ) fun n hn => hr n (by simp [hn]), hl] at h1
        have h2 := opX_rel r c
        rw [opX_congr (Γ := Γ) fun n hn => hr n (by simp [hn]), hc] at h2
        have hrm := run_make (P := P) w t el j zv ((hT t _ ht).slice rfl) hj hz2 kl kc n m h0 hnm (by rw [hb2]; exact hb) (by omega)
        rw [hs, hs1, Nat.mul_one] at hrm
        have hrun : (execOp a.eval o).run P w = .ok (.value (.slice (some ⟨w.heap.size, 0, none⟩) n.toNat m.toNat)) (w.alloc (.cells (madeCells zv.cells m.toNat) el)) := by
          simp only [execOp, ho, (raw_of h1).1, (raw_of h2).1]
          exact run_v hrm
        rw [hz] at hc2
        have hzc : zv.cells = #[z.val] := by
          have := congrArg List.toArray hc2; simpa using this
        have hcells : (madeCells zv.cells m.toNat).toList = List.replicate m.toNat z.val := by
          rw [hzc]
          apply List.ext_getElem?
          intro k
          simp only [madeCells, Array.toList_map, Array.toList_range, List.getElem?_map, List.getElem?_replicate]
          by_cases hk : k < m.toNat
          · rw [List.getElem?_range hk]; simp [hk, Nat.mod_one]
          · rw [List.getElem?_eq_none (by simp; omega)]; simp [hk]
        have hsz : (madeCells zv.cells m.toNat).size = m.toNat := size_madeCells _ _
        have hok : ZC.ok z = true := by
          have := hti.zok; rw [hz] at this; simpa using this
        obtain ⟨r2, f2, x2⟩ := new_row r (h := th i 0) (hu (th i 0) (isTh_th (by omega))) (v := .slice (some ⟨w.heap.size, 0, none⟩) n.toNat m.toNat) (ty := el) (e := 1) (n := n.toNat) (vs := List.replicate n.toNat z.val) (xs := List.replicate n.toNat (zSV z)) (by omega) (by simp)
          (World.grownBy_alloc w _ none) ⟨by simp, .inr ⟨w.heap.size, m.toNat, _, rfl, Nat.zero_le _, heap_alloc_new w _, by omega, by simp only [maxLen]; omega, by rw [hsz]; omega, by rw [hcells, Nat.mul_one, List.take_replicate]; congr 1; omega⟩⟩ (fun b hb => by simp [Value.ownBlock] at hb; omega)
          (by
            refine ⟨by simp, fun k u x e1 e2 => ?_⟩
            rw [List.getElem?_replicate] at e1 e2
            split at e1
            · rename_i hkk; rw [if_pos hkk] at e2; cases e1; cases e2; exact zSV_rel hok
            · cases e1)
        exact wp_value hrun (hk _ _ _ (rel_putT' (Γ := Δ) hd (wr := [(.row (th i 0), _)]) r2 x2) f2)
      · exact h.elim
    · exact h.elim
  · exact h.elim
/-! ### append -/
/-- A row becomes another one: the same block grown, or a new one. -/
theorem next_row {Γ nt a w g w'} (r : Rel Γ nt a w g) {h h' : Nat} (hu : Unm Γ h') {ty0 e0 : Nat} {xs0 : List SV} (hrow : Γ (.row h) = .row ty0 e0 xs0) (htag : ∀ b, (g.hd h).ownBlock = some b → g.o b = .row h) {v : Value} {ty e n : Nat} {vs : List Value} {xs : List SV} (he : 0 < e) (hn : xs.length = n * e)
    (hg : w.grownBy w' (g.hd h).ownBlock) (ho : w'.ownsRow 0 ty e v n vs) (hb : ∀ b, v.ownBlock = some b → (g.hd h).ownBlock = some b ∨ w.heap.size ≤ b) (hx : All2 (SVR w g.o) vs xs) :
    Rel (up (up Γ (.row h) .none) (.row h') (.row ty e xs)) nt a w' (g.newRow h' v) ∧ Fr w w' g.o (g.newRow h' v).o ∧ XR w' (g.newRow h' v) v (.p (.one (.sr h'))) := by
  have hlt := ho.lt
  have hne : h ≠ h' := fun e => by have := (hu (.row h)).2 e; rw [hrow] at this; simp at this
  have hold : ∀ b, b < w.heap.size → g.o b ≠ .row h → w'.heap[b]? = w.heap[b]? := fun b hb ht => hg.block b hb (fun e => ht (htag b e.symm))
  have ext : ∀ M : Nat → Prop, (∀ k, M k → k ≠ h') → Ext w w' g (g.newRow h' v) (some (.row h)) M := fun M hM =>
    ⟨hg.size, fun b hb' hn' => by
        have hnr : g.o b ≠ .row h := hn' _ rfl
        refine ⟨hold b (r.tags b hb') hnr, ?_⟩
        have hnv : v.ownBlock ≠ some b := fun e => by
          rcases hb b e with h1 | h1
          · exact hnr (htag b h1)
          · have := r.tags b hb'; omega
        simp [Gh.newRow, hnv],
      fun b hb' => by
        by_cases e : v.ownBlock = some b
        · exact (hlt b e).2
        · have := r.tags b (by simpa [Gh.newRow, e] using hb'); have := hg.size; omega,
      fun k hk => by simp [Gh.newRow, hM k hk], fun k _ => rfl⟩
  refine ⟨(r.extUp (c := .none) (ext _ fun k hk e => hk (e ▸ hu)) trivial).upd ?_, ⟨hg.os, hg.tape, hg.output, hg.size, fun b hb' hoo => ⟨hold b hb' (by rcases hoo with h1 | h1 <;> rw [h1] <;> simp), by
    have : v.ownBlock ≠ some b := fun e => by
      rcases hb b e with h1 | h1
      · have := htag b h1; rcases hoo with h2 | h2 <;> rw [h2] at this <;> simp at this
      · omega
    simp [Gh.newRow, this]⟩, fun b hb' ⟨k, hk⟩ => by
    have : v.ownBlock ≠ some b := fun e => by
      rcases hb b e with h1 | h1
      · have := htag b h1; rw [hk] at this; simp at this
      · omega
    exact ⟨by simp [Gh.newRow, this, hk, Tag.nr], Shp.of_eq (hold b hb' (by rw [hk]; simp))⟩⟩, by simp [XR, PXR, TVR, Gh.newRow]⟩
  exact ⟨n, vs, he, hn, .inl ⟨by simpa [Gh.newRow] using ho, fun b hb' => by
    have : v.ownBlock = some b := by simpa [Gh.newRow] using hb'
    simp [Gh.newRow, this]⟩, hx.mono fun u x => (ext (fun _ => False) (by simp)).svr⟩
/-- An empty slice without room is a row. -/
def Gh.zRow (g : Gh) (h : Nat) (v : Value) : Gh := { g with hd := fun k => if k = h then v else g.hd k }
theorem z_row {Γ nt a w g} (r : Rel Γ nt a w g) {h : Nat} (hu : Unm Γ h) {b : Addr} {ty e : Nat} (he : 0 < e) :
    Rel (up Γ (.row h) (.row ty e [])) nt a w (g.zRow h (.slice (some b) 0 0)) ∧ Fr w w g.o (g.zRow h (.slice (some b) 0 0)).o ∧ XR w (g.zRow h (.slice (some b) 0 0)) (.slice (some b) 0 0) (.p (.one (.sr h))) := by
  have ext : Ext w w g (g.zRow h (.slice (some b) 0 0)) none fun k => ¬ Unm Γ k :=
    ⟨Nat.le_refl _, fun _ _ _ => ⟨rfl, rfl⟩, fun b hb => r.tags b hb, fun k' hk => by
      have : k' ≠ h := fun e => hk (e ▸ hu)
      simp [Gh.zRow, this], fun _ _ => rfl⟩
  exact ⟨(r.ext ext).upd ⟨0, [], he, by simp, .inr ⟨rfl, rfl, b, by simp [Gh.zRow]⟩, .nil⟩, Fr.refl _ _, by simp [XR, PXR, TVR, Gh.zRow]⟩
theorem append_core {P : Program} {w : World} {t ty el : Nat} {ei : TI} (hu : P.underlying t = some (.slice el)) (hi : TIok P el ei) (h0 : 0 < ei.size) (hby : 0 < ei.bytes) (hzl : ei.zero.length = ei.size)
    {v : Value} {n : Nat} {vs : List Value} (hown : w.ownsRow 0 el ei.size v n vs) {ad : Option Addr} {m c : Nat} {news : List Value} (hn0 : ad = none → m = 0 ∧ c = 0) (hl : news.length = m * ei.size)
    (hnews : ∀ b, ad = some b → ∀ j u, news[j]? = some u → w.cell? (b.add j) = some u) (h1 : ∀ u ∈ news, u.oneCell' = true) (hbd : (n + m) * ei.bytes ≤ 140737488355328) :
    ∃ v' w', (Builtin.append_ #[t, t] ty #[v, .slice ad m c]).run P w = .ok v' w' ∧ w'.ownsRow 0 el ei.size v' (n + m) (vs ++ news) ∧ w.grownBy w' v.ownBlock ∧ (∀ b, v'.ownBlock = some b → v.ownBlock = some b ∨ w.heap.size ≤ b) := by
  obtain ⟨j, z, hj, hs, hb, hz, hc⟩ := hi.info'
  have hzs : z.cells.size = ei.size := by rw [← hzl]; have := congrArg List.length hc; simpa using this
  have hml : n + m ≤ maxLen := by
    have : n + m ≤ (n + m) * ei.bytes := Nat.le_mul_of_pos_right _ hby
    simp only [maxLen]; omega
  cases ad with
  | none =>
    obtain ⟨rfl, rfl⟩ := hn0 rfl
    have : news = [] := List.eq_nil_of_length_eq_zero (by simpa using hl)
    subst this
    refine ⟨v, w, run_append_owned_none (P := P) w 0 t ty el j ei.size hu hj v n vs hown, by simpa using hown, ⟨rfl, rfl, rfl, Nat.le_refl _, fun _ _ _ => rfl⟩, fun b hb => .inl hb⟩
  | some b =>
    obtain ⟨v', w', hr, h2, h3, h4⟩ := run_append_own (P := P) w 0 t ty el j z ei.size ei.bytes hu hj hz hs hb hzs h0 v n vs hown b m c news hl (hnews b rfl) h1 hml hbd (Nat.zero_le _)
    refine ⟨v', w', hr, h2, h3, fun bb hbb => ?_⟩
    have hbd' : (n + m) * j.bytes ≤ 140737488355328 := by rw [hb]; exact hbd
    have hsm : ((n + m : Nat) : Int) ≤ 9223372036854775807 := by simp only [maxLen] at hml; omega
    rcases hown.2 with ⟨rfl, rfl⟩ | ⟨gg, cap, cur, rfl, _, hg, hnc, hcm, hcs, htake⟩
    · by_cases hm : m = 0
      · have := h4.2 ⟨rfl, hm⟩
        rw [this] at hbb; simp [Value.ownBlock] at hbb
      · have e := run_append_nil (P := P) w t ty el j z hu hj hz b m c news (by rw [hs]; exact hl) (hnews b rfl) (by omega) (by omega) (by simp only [Nat.zero_add] at hbd'; omega)
        rw [e] at hr
        injection hr with e1 _
        rw [← e1] at hbb
        simp [Value.ownBlock] at hbb
        exact .inr (by omega)
    · by_cases hroom : n + m ≤ cap
      · have hfit : n * j.size + news.length ≤ cur.size := by rw [hl, hs, hcs, ← Nat.add_mul]; exact Nat.mul_le_mul_right _ hroom
        have e := run_append_room (P := P) w t ty el j hu hj gg n cap cur hg b m c news (by rw [hs]; exact hl) (hnews b rfl) h1 hroom hfit
        rw [e] at hr
        injection hr with e1 _
        rw [← e1] at hbb
        exact .inl hbb
      · have e := run_append_grow (P := P) w t ty el j z hu hj hz ⟨gg, 0, none⟩ n cap vs (by rw [hs]; exact hown.1) (hown.cells (g := gg) rfl) b m c news (by rw [hs]; exact hl) (hnews b rfl) (by omega) hsm (growslice_fits (by omega) hbd')
        rw [e] at hr
        injection hr with e1 _
        rw [← e1] at hbb
        simp [Value.ownBlock] at hbb
        exact .inr (by omega)
theorem append_z {P : Program} {w : World} {t ty el : Nat} {ei : TI} (hu : P.underlying t = some (.slice el)) (hi : TIok P el ei) (h0 : 0 < ei.size) (hby : 0 < ei.bytes) (hzl : ei.zero.length = ei.size)
    {b0 : Addr} {ad : Option Addr} {m c : Nat} {news : List Value} (hn0 : ad = none → m = 0 ∧ c = 0) (hl : news.length = m * ei.size)
    (hnews : ∀ b, ad = some b → ∀ j u, news[j]? = some u → w.cell? (b.add j) = some u) (h1 : ∀ u ∈ news, u.oneCell' = true) (hbd : m * ei.bytes ≤ 140737488355328) :
    ((m = 0 ∧ (Builtin.append_ #[t, t] ty #[.slice (some b0) 0 0, .slice ad m c]).run P w = .ok (.slice (some b0) 0 0) w) ∨
    ∃ v' w', (Builtin.append_ #[t, t] ty #[.slice (some b0) 0 0, .slice ad m c]).run P w = .ok v' w' ∧ w'.ownsRow 0 el ei.size v' m news ∧ w.grownBy w' none ∧ (∀ b, v'.ownBlock = some b → w.heap.size ≤ b)) := by
  obtain ⟨j, z, hj, hs, hb, hz, hc⟩ := hi.info'
  by_cases hm : m = 0
  · refine .inl ⟨hm, ?_⟩
    subst hm
    have hnn : news = [] := List.eq_nil_of_length_eq_zero (by simpa using hl)
    subst hnn
    cases ad with
    | none =>
      simp [Builtin.append_, run_underlying hu, sizeOf, typeInfo, hj, Builtin.lenOf, Builtin.firstCells, storeCells, go_sem]
    | some b =>
      have hf := run_firstCells_some (P := P) w j.size 0 b 0 c [] (by simp) (by simp)
      simp [Builtin.append_, run_underlying hu, sizeOf, typeInfo, hj, Builtin.lenOf, hf, storeCells, go_sem]
  · refine .inr ?_
    cases ad with
    | none => exact absurd (hn0 rfl).1 hm
    | some b =>
      have hbd' : m * j.bytes ≤ 140737488355328 := by rw [hb]; exact hbd
      have hsm : (m : Int) ≤ 9223372036854775807 := by
        have : m ≤ m * ei.bytes := Nat.le_mul_of_pos_right _ hby
        omega
      obtain ⟨v', w', e1, e2, e3, e4⟩ := append_core (ty := ty) hu hi h0 hby hzl (World.ownsRow_nil w 0 el ei.size) (n := 0) (ad := some b) (c := c) (by simp) hl (fun b' hb' => by cases hb'; exact hnews b rfl) h1 (by simpa using hbd)
      have q1 := run_append_nil (P := P) w t ty el j z hu hj hz b m c news (by rw [hs]; exact hl) (hnews b rfl) (by omega) (by omega) (by omega)
      have q2 := run_append_grow (P := P) w t ty el j z hu hj hz b0 0 0 [] (by simp) (by simp) b m c news (by rw [hs]; exact hl) (hnews b rfl) (by omega) (by omega) (growslice_fits (by omega) (by simpa using hbd'))
      simp only [Nat.zero_add] at q2
      rw [q1] at e1
      injection e1 with e5 e6
      refine ⟨v', w', ?_, by simpa using e2, by simpa [Value.ownBlock] using e3, fun b' hb' => by
        rcases e4 b' hb' with h | h
        · simp [Value.ownBlock] at h
        · exact h⟩
      rw [q2, ← e5, ← e6]
      simp
/-- What is appended: cells that are there. -/
theorem src_cells {Γ Δ nt a w g u x e ys rd} (h : slOf Γ x = some (e, ys, rd)) (hr : ∀ n ∈ rd, Δ n = Γ n) (r : Rel Δ nt a w g) (hx : XR w g u x) :
    ∃ ad m c news, u = .slice ad m c ∧ (ad = none → m = 0 ∧ c = 0) ∧ m = cnt e ys ∧ (ys ≠ [] → news.length = m * e) ∧ (∀ b, ad = some b → ∀ j v, news[j]? = some v → w.cell? (b.add j) = some v) ∧ All2 (SVR w g.o) news ys := by
  have key : SVR w g.o u (.sl e ys) → ∃ ad m c news, u = .slice ad m c ∧ (ad = none → m = 0 ∧ c = 0) ∧ m = cnt e ys ∧ (ys ≠ [] → news.length = m * e) ∧ (∀ b, ad = some b → ∀ j v, news[j]? = some v → w.cell? (b.add j) = some v) ∧ All2 (SVR w g.o) news ys := fun hx => by
    cases hx with
    | nil ad cap _ hn => exact ⟨ad, 0, cap, [], rfl, fun h => ⟨rfl, hn h⟩, by simp [cnt], by simp, fun b _ j v hj => by simp at hj, .nil⟩
    | sl b off len cap _ _ us hb he hl hx hc hu hm hr' =>
      refine ⟨_, len, cap, us, rfl, fun h => by simp at h, by rw [cnt, hx, Nat.mul_div_cancel _ he], fun _ => by rw [hu, hx], fun b' hb' j v hj => ?_, ⟨hu, hr'⟩⟩
      cases hb'
      rw [Addr.add_lit]
      exact hm j v hj
  unfold slOf at h
  split at h
  · cases h; exact key hx
  · cases h; exact key hx.1
  · rename_i hh
    split at h
    · rename_i ty e' zs hrow
      cases h
      have rr := r.row (h := hh) (by rw [hr _ (by simp), hrow])
      obtain ⟨ad, n, cap, h1, h2, h3, h4, h5, h6⟩ := rr.head
      obtain ⟨m, vs, he, hn, ho', hall⟩ := rr
      have hx' : u = g.hd hh := hx
      refine ⟨ad, n, cap, vs, hx'.trans h1, fun h => ?_, h2, fun _ => by rw [hall.1, h4], fun b hb j v hj => ?_, hall⟩
      · have := (h5 h).1
        subst this
        refine ⟨?_, (h5 h).2⟩
        rw [h2]; simp [cnt]
      · cases hb
        rcases ho' with ⟨ho, _⟩ | ⟨_, q2, _⟩
        · have hne : ys ≠ [] := fun hxs => by
            have := hall.1
            rw [hxs] at this
            have : vs = [] := List.eq_nil_of_length_eq_zero (by simpa using this)
            subst this
            simp at hj
          obtain ⟨k, rfl⟩ := h6 hne b rfl
          exact ho.cells (g := k) (by rw [h1]; rfl) j v hj
        · subst q2; simp at hj
    · cases h
  · cases h
    have hx' : u = _ := hx
    exact ⟨none, 0, 0, [], hx', fun _ => ⟨rfl, rfl⟩, by simp [cnt], by simp, (fun b hb => by cases hb), All2.nil⟩
  · cases h
/-- The row that is appended to. -/
def dstOf (Γ : Nm → C) (el e : Nat) (x : X) : Option (List SV × List Nat) :=
  match x with
  | .p (.one (.sr h)) => match Γ (.row h) with | .row ty e' xs => if ty = el ∧ e' = e then some (xs, [h]) else none | _ => none
  | .p (.one (.nl _ _)) => some ([], [])
  | _ => none
def vAppend (T : Tab) (Γ : Nm → C) (i : Nat) (o : Oper) (t1 t2 : Nat) (s x : Operand) (K : List Nm → List (Nm × C) → Prop) : Prop :=
  match T t1 with
  | some ⟨.slice el, _, _, _⟩ => match T el with
    | some ei => t1 = t2 ∧ 0 < ei.size ∧ 0 < ei.bytes ∧ ei.zero.length = ei.size ∧ match dstOf Γ el ei.size (opX Γ s), slOf Γ (opX Γ x) with
      | some (xs, hs), some (e, ys, rd) => (e = ei.size ∨ ys = []) ∧ (cnt ei.size xs + cnt ei.size ys) * ei.bytes ≤ 140737488355328 ∧
        K (opR s ++ opR x ++ hs.map .row ++ rd) (putT o.dst (.p (.one (.sr (th i 0)))) ++ ((.row (th i 0), .row el ei.size (xs ++ ys)) :: frzW hs))
      | _, _ => False
    | none => False
  | _ => False
theorem vAppend_ok {P T Γ nt i o t1 t2 s x c K} (hT : Tok P T) (hd : dOk nt o) (ho : o.op = .call c) (hc : c.callee = .builtin .append) (hat : c.argTypes = #[t1, t2]) (ha : c.args = #[s, x]) (h : vAppend T Γ i o t1 t2 s x K) : Good P nt i o Γ K := by
  unfold vAppend at h
  split at h
  · rename_i el sz by' ze ht
    split at h
    · rename_i ei hei
      obtain ⟨rfl, h0, hby, hzl, h⟩ := h
      split at h
      · rename_i xs hs e ys rd hdst hsrc
        obtain ⟨hey, hbd, h⟩ := h
        refine ⟨_, _, ?_, h⟩
        intro Δ a w g Q K' hr hu r hk
        have hti := hT el ei hei
        have hun := (hT t1 _ ht).slice rfl
        have hs1 := opX_rel r s
        rw [opX_congr (Γ := Γ) fun n hn => hr n (by simp [hn])] at hs1
        have hx1 := opX_rel r x
        rw [opX_congr (Γ := Γ) fun n hn => hr n (by simp [hn])] at hx1
        obtain ⟨ad, m, cp, news, hv, hn0, hm, hnl, hcells, hall⟩ := src_cells hsrc (fun n hn => hr n (List.mem_append_right _ hn)) r hx1
        have hm' : m = cnt ei.size ys := by rcases hey with rfl | rfl <;> simp [hm, cnt]
        have hnl' : news.length = m * ei.size := by
          rcases hey with rfl | rfl
          · by_cases hy : ys = []
            · subst hy; have := hall.1; rw [hm]; simp [cnt] at this ⊢; exact this
            · exact hnl hy
          · have := hall.1; rw [hm]; simp [cnt] at this ⊢; exact this
        have h1 : ∀ u ∈ news, u.oneCell' = true := fun u hu' => by
          obtain ⟨j, hj⟩ := List.mem_iff_getElem?.1 hu'
          have hlt : j < ys.length := by rw [← hall.1]; exact (List.getElem?_eq_some_iff.1 hj).1
          exact (hall.2 j u ys[j] hj (List.getElem?_eq_getElem hlt)).oneCell
        have hlen : ys.length = m * ei.size := by rw [← hall.1]; exact hnl'
        have hrun : ∀ v w' (sv : Value), a.eval s = sv → (Builtin.append_ #[t1, t1] o.type #[sv, .slice ad m cp]).run P w = .ok v w' → (execOp a.eval o).run P w = .ok (.value v) w' := fun v w' sv hsv hh => by
          rw [run_call_builtin ho hc, hat, ha]
          refine run_v ?_
          simp only [List.map_toArray, List.map_cons, List.map_nil, hsv, hv]
          exact hh
        unfold dstOf at hdst
        split at hdst
        · rename_i hh hxs
          split at hdst
          · rename_i ty e' xs' hrow
            split at hdst
            · rename_i hte
              obtain ⟨rfl, rfl⟩ := hte
              cases hdst
              have hrow' : Δ (.row hh) = .row ty ei.size xs := by rw [hr _ (by simp), hrow]
              obtain ⟨n, vs, he, hn, hown', hall2⟩ := r.row hrow'
              have hn' : n = cnt ei.size xs := by rw [cnt, hn, Nat.mul_div_cancel _ he]
              rw [hxs] at hs1
              have hsv : a.eval s = g.hd hh := hs1
              rcases hown' with ⟨hown, htag⟩ | ⟨q1, q2, b0, q3⟩
              case inr =>
                subst q1
                have hx0 : xs = [] := List.eq_nil_of_length_eq_zero (by simpa using hn)
                subst hx0
                rw [q3] at hsv
                have hu' := (hu (th i 0) (isTh_th (by omega))).frzW (hs := [hh])
                have r' : Rel (ups Δ (frzW [hh])) nt a w g := r.upNone _
                rcases append_z (ty := o.type) (b0 := b0) hun hti h0 hby hzl hn0 hnl' hcells h1 (by rw [hm']; simpa [cnt] using hbd) with ⟨z1, z2⟩ | ⟨v', w', z1, z2, z3, z4⟩
                · have hy0 : ys = [] := List.eq_nil_of_length_eq_zero (by rw [hlen, z1]; simp)
                  subst hy0
                  obtain ⟨r2, f2, x2⟩ := z_row r' hu' (b := b0) (ty := ty) (e := ei.size) h0
                  exact wp_value (hrun _ _ _ hsv z2) (hk _ _ _ (rel_putT' (Γ := Δ) hd (wr := (.row (th i 0), .row ty ei.size (([] : List SV) ++ ([] : List SV))) :: frzW [hh]) (show Rel (up (ups Δ (frzW [hh])) (.row (th i 0)) (.row ty ei.size (([] : List SV) ++ ([] : List SV)))) nt a w _ from r2) x2) f2)
                · obtain ⟨r2, f2, x2⟩ := new_row r' hu' (xs := [] ++ ys) h0 (by simpa using hlen) z3 z2 z4 (by simpa using hall)
                  exact wp_value (hrun v' w' _ hsv z1) (hk _ _ _ (rel_putT' (Γ := Δ) hd (wr := (.row (th i 0), _) :: frzW [hh]) r2 x2) f2)
              obtain ⟨v', w', hr', ho', hg', hb'⟩ := append_core (ty := o.type) hun hti h0 hby hzl hown hn0 hnl' hcells h1 (by rw [hn', hm']; exact hbd)
              obtain ⟨r2, f2, x2⟩ := next_row r (hu (th i 0) (isTh_th (by omega))) hrow' htag (xs := xs ++ ys) h0 (by rw [List.length_append, hn, hlen, Nat.add_mul]) hg' ho' hb' (hall2.append hall)
              exact wp_value (hrun v' w' _ hsv hr') (hk _ _ _ (rel_putT' (Γ := Δ) hd (wr := (.row (th i 0), _) :: frzW [hh]) r2 x2) f2)
            · cases hdst
          · cases hdst
        · rename_i hxs
          cases hdst
          rw [hxs] at hs1
          have hsv : a.eval s = .slice none 0 0 := hs1
          obtain ⟨v', w', hr', ho', hg', hb'⟩ := append_core (ty := o.type) hun hti h0 hby hzl (World.ownsRow_nil w 0 el ei.size) hn0 hnl' hcells h1 (by rw [hm']; simpa [cnt] using hbd)
          obtain ⟨r2, f2, x2⟩ := new_row r (hu (th i 0) (isTh_th (by omega))) (xs := ys) h0 (by rw [hlen]; congr 1; omega) hg' ho' (fun b hb => by
            rcases hb' b hb with h1 | h1
            · simp [Value.ownBlock] at h1
            · exact h1) (by simpa using hall)
          exact wp_value (hrun v' w' _ hsv hr') (hk _ _ _ (rel_putT' (Γ := Δ) hd (wr := [(.row (th i 0), _)]) r2 x2) f2)
        · cases hdst
      · exact h.elim
    · exact h.elim
  · exact h.elim
/-! ### cuts of own rows -/
def vSliceR (T : Tab) (Γ : Nm → C) (i : Nat) (o : Oper) (t : Nat) (x : Operand) (lo hi : Option Operand) (K : List Nm → List (Nm × C) → Prop) : Prop :=
  match T t with
  | some ⟨.slice el, _, _, _⟩ => match T el, opX Γ x with
    | some ei, .p (.one (.sr hh)) => match Γ (.row hh) with
      | .row ty e xs => match optI Γ 0 lo, optI Γ (cnt e xs : Int) hi with
        | some l, some h => e = ei.size ∧ 0 ≤ l ∧ l ≤ h ∧ h ≤ (cnt e xs : Int) ∧ match lo with
          | none => K (opR x ++ (optR lo ++ optR hi) ++ [.row hh]) (putT o.dst (.p (.one (.sr (th i 0)))) ++ [(.row (th i 0), .row ty e (xs.take (h.toNat * e))), (.row hh, .none)])
          | some _ => K (opR x ++ (optR lo ++ optR hi) ++ [.row hh]) (putT o.dst (.p (.one (.v (.sl e (cutSV e xs l h))))) ++ frzW [hh])
        | _, _ => False
      | _ => False
    | _, _ => False
  | _ => False
theorem optI_none {Γ d l} (h : optI Γ d none = some l) : l = d := by simp [optI] at h; exact h.symm
theorem vSliceR_ok {P T Γ nt i o t x lo hi K} (hT : Tok P T) (hd : dOk nt o) (ho : o.op = .slice t x lo hi none) (h : vSliceR T Γ i o t x lo hi K) : Good P nt i o Γ K := by
  unfold vSliceR at h
  split at h
  · rename_i el sz by' ze ht
    split at h
    · rename_i ei hh hei hx
      split at h
      · rename_i ty e xs hrow
        split at h
        · rename_i l hI hlo hhi
          obtain ⟨rfl, h0, h1, h2, h⟩ := h
          have base : ∀ (Δ : Nm → C) (a : Act) w g, (∀ n ∈ opR x ++ (optR lo ++ optR hi) ++ [.row hh], Δ n = Γ n) → Rel Δ nt a w g →
              ∃ ad n cap, g.hd hh = .slice ad n cap ∧ n = cnt ei.size xs ∧ a.eval x = g.hd hh ∧ Δ (.row hh) = .row ty ei.size xs ∧
                (execOp a.eval o).run P w = .ok (.value (.slice (if cap = l.toNat then ad else ad.map (·.add (l.toNat * ei.size))) (hI.toNat - l.toNat) (cap - l.toNat))) w := fun Δ a w g hr r => by
            have hx1 := opX_rel r x
            rw [opX_congr (Γ := Γ) fun n hn => hr n (by simp [hn]), hx] at hx1
            have hrow' : Δ (.row hh) = .row ty ei.size xs := by rw [hr _ (by simp), hrow]
            obtain ⟨ad, n, cap, e1, e2, e3, _⟩ := (r.row hrow').head
            have hv : a.eval x = g.hd hh := hx1
            refine ⟨ad, n, cap, e1, e2, hv, hrow', ?_⟩
            simp only [execOp, ho, hv, e1]
            exact run_v (run_slice_slice (a := a) ((hT t _ ht).slice rfl) (hT el ei hei) (run_bounds n cap true hlo (by rw [e2]; exact hhi) (fun n hn => hr n (by simp only [List.mem_append] at hn ⊢; exact .inl (.inr hn))) r h0 h1 (by rw [← e2] at h2; omega)))
          split at h
          · refine ⟨_, _, ?_, h⟩
            intro Δ a w g Q K' hr hu r hk
            obtain ⟨ad, n, cap, e1, e2, hv, hrow', hrun⟩ := base Δ a w g hr r
            obtain rfl := optI_none hlo
            obtain ⟨n', vs, he, hn, hown', hall⟩ := r.row hrow'
            have hnn : n' = n := by rw [e2, cnt, hn, Nat.mul_div_cancel _ he]
            subst hnn
            have hval : (Value.slice (if cap = (0 : Int).toNat then ad else ad.map (·.add ((0 : Int).toNat * ei.size))) (hI.toNat - (0 : Int).toNat) (cap - (0 : Int).toNat)) = .slice ad hI.toNat cap := by
              have : ad.map (·.add 0) = ad := by cases ad <;> simp [Addr.add]
              simp [this]
            rw [hval] at hrun
            rcases hown' with ⟨hown, htag⟩ | ⟨q1, q2, b0, q3⟩
            case inr =>
              subst q1
              have hx0 : xs = [] := List.eq_nil_of_length_eq_zero (by simpa using hn)
              subst hx0
              rw [e1] at q3
              cases q3
              have hI0 : hI.toNat = 0 := by omega
              have hu' := (hu (th i 0) (isTh_th (by omega))).frzW (hs := [hh])
              have r' : Rel (ups Δ (frzW [hh])) nt a w g := r.upNone _
              obtain ⟨r2, f2, x2⟩ := z_row r' hu' (b := b0) (ty := ty) (e := ei.size) he
              rw [hI0] at hrun
              exact wp_value hrun (hk _ _ _ (rel_putT' (Γ := Δ) hd (wr := [(.row (th i 0), .row ty ei.size (([] : List SV).take (hI.toNat * ei.size))), (.row hh, .none)]) (by rw [List.take_nil]; exact r2) x2) f2)
            have hle : hI.toNat ≤ n' := by omega
            have hown' : w.ownsRow 0 ty ei.size (.slice ad hI.toNat cap) hI.toNat (vs.take (hI.toNat * ei.size)) := by
              refine ⟨by simp [hown.1, Nat.min_eq_left (Nat.mul_le_mul_right ei.size hle)], ?_⟩
              rcases hown.2 with ⟨q1, q2⟩ | ⟨gg, cap', cur, q1, q2, q3, q4, q5, q6, q7⟩
              · rw [e1] at q1
                cases q1
                have : hI.toNat = 0 := by omega
                exact .inl ⟨by rw [this], this⟩
              · rw [e1] at q1
                cases q1
                exact .inr ⟨gg, cap, cur, rfl, q2, q3, by omega, q5, q6, by rw [← q7, List.take_take, Nat.min_eq_left (Nat.mul_le_mul_right _ hle)]⟩
            obtain ⟨r2, f2, x2⟩ := next_row r (hu (th i 0) (isTh_th (by omega))) hrow' htag (v := .slice ad hI.toNat cap) (xs := xs.take (hI.toNat * ei.size)) he (by simp [hn, Nat.min_eq_left (Nat.mul_le_mul_right ei.size hle)])
              (w' := w) ⟨rfl, rfl, rfl, Nat.le_refl _, fun _ _ _ => rfl⟩ hown' (fun b hb => .inl (by rw [e1]; cases ad <;> exact hb)) (hall.take _)
            exact wp_value hrun (hk _ _ _ (rel_putT' (Γ := Δ) hd (wr := [(.row (th i 0), _), (.row hh, .none)]) r2 x2) f2)
          · refine ⟨_, _, ?_, h⟩
            intro Δ a w g Q K' hr hu r hk
            obtain ⟨ad, n, cap, e1, e2, hv, hrow', hrun⟩ := base Δ a w g hr r
            have hsv := (r.row hrow').frz (hs := [hh]) (by simp)
            rw [e1] at hsv
            exact wp_value hrun (hk _ _ _ (rel_putT' (Γ := Δ) hd (wr := frzW [hh]) (r.frz [hh]) (hsv.cut e2 h0 h1 h2)) (Fr.frz w g [hh]))
        · exact h.elim
      · exact h.elim
    · exact h.elim
  · exact h.elim
end Go.Proofs.YtdpflafjfkooeaaGreatDoorG
