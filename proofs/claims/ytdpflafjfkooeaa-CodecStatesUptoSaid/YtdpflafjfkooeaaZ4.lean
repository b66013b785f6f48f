/- YtdpflafjfkooeaaZ4: a part of the proof, joined of its texts. -/
import Derived.Test.YtdpflafjfkooeaaZ3
/- G8: make, append, cuts of own rows. -/
namespace Go.Proofs.YtdpflafjfkooeaaG
open Go Go.RowKit
set_option linter.unusedVariables false
set_option linter.unusedSimpArgs false
/-! ### make -/
def vMake (T : Tab) (Γ : Nm → C) (i : Nat) (o : Oper) (t : Nat) (l c : Operand) (K : List Nm → List (Nm × C) → Prop) : Prop :=
  match T t with
  | some ⟨.slice el, _, _, _⟩ => match T el with
    | some ei => match ei.zero, opX Γ l, opX Γ c with
      | [z], .p (.one (.v (.raw (.int kl n)))), .p (.one (.v (.raw (.int kc m)))) => ei.size = 1 ∧ 0 ≤ n ∧ n ≤ m ∧ (ei.bytes : Int) * m ≤ 281474976710656 ∧ m ≤ 281474976710656 ∧
        K (opR l ++ opR c) (putT o.dst (.p (.one (.sr (th i 0)))) ++ [(.row (th i 0), .row el 1 (List.replicate n.toNat (zSV z)))])
      | _, _, _ => False
    | none => False
  | _ => False
theorem vMake_ok {P T Γ nt i o t l c K} (hT : Tok P T) (hd : dOk nt o) (ho : o.op = .makeSlice t l c) (h : vMake T Γ i o t l c K) : Good P nt i o Γ K := by
  unfold vMake at h
  split at h
  · rename_i el sz by' ze ht
    split at h
    · rename_i ei hei
      split at h
      · rename_i z kl n kc m hz hl hc
        obtain ⟨hs1, h0, hnm, hb, hm, h⟩ := h
        refine ⟨_, _, ?_, h⟩
        intro Δ a w g Q K' hr hu r hk
        have hti := hT el ei hei
        obtain ⟨j, zv, hj, hs, hb2, hz2, hc2⟩ := hti.info'
        have h1 := opX_rel r l
        rw [opX_congr (Γ := Γ) fun n hn => hr n (by simp [hn]), hl] at h1
        have h2 := opX_rel r c
        rw [opX_congr (Γ := Γ) fun n hn => hr n (by simp [hn]), hc] at h2
        have hrm := run_make (P := P) w t el j zv ((hT t _ ht).slice rfl) hj hz2 kl kc n m h0 hnm (by rw [hb2]; exact hb) (by omega)
        rw [hs, hs1, Nat.mul_one] at hrm
        have hrun : (execOp a.eval o).run P w = .ok (.value (.slice (some ⟨w.heap.size, 0, none⟩) n.toNat m.toNat)) (w.alloc (.cells (madeCells zv.cells m.toNat) el)) := by
          simp only [execOp, ho, (raw_of h1).1, (raw_of h2).1]
          exact run_v hrm
        rw [hz] at hc2
        have hzc : zv.cells = #[z.val] := by
          have := congrArg List.toArray hc2; simpa using this
        have hcells : (madeCells zv.cells m.toNat).toList = List.replicate m.toNat z.val := by
          rw [hzc]
          apply List.ext_getElem?
          intro k
          simp only [madeCells, Array.toList_map, Array.toList_range, List.getElem?_map, List.getElem?_replicate]
          by_cases hk : k < m.toNat
          · rw [List.getElem?_range hk]; simp [hk, Nat.mod_one]
          · rw [List.getElem?_eq_none (by simp; omega)]; simp [hk]
        have hsz : (madeCells zv.cells m.toNat).size = m.toNat := size_madeCells _ _
        have hok : ZC.ok z = true := by
          have := hti.zok; rw [hz] at this; simpa using this
        obtain ⟨r2, f2, x2⟩ := new_row r (h := th i 0) (hu (th i 0) (isTh_th (by omega))) (v := .slice (some ⟨w.heap.size, 0, none⟩) n.toNat m.toNat) (ty := el) (e := 1) (n := n.toNat) (vs := List.replicate n.toNat z.val) (xs := List.replicate n.toNat (zSV z)) (by omega) (by simp)
          (World.grownBy_alloc w _ none) ⟨by simp, .inr ⟨w.heap.size, m.toNat, _, rfl, Nat.zero_le _, heap_alloc_new w _, by omega, by simp only [maxLen]; omega, by rw [hsz]; omega, by rw [hcells, Nat.mul_one, List.take_replicate]; congr 1; omega⟩⟩ (fun b hb => by simp [Value.ownBlock] at hb; omega)
          (by
            refine ⟨by simp, fun k u x e1 e2 => ?_⟩
            rw [List.getElem?_replicate] at e1 e2
            split at e1
            · rename_i hkk; rw [if_pos hkk] at e2; cases e1; cases e2; exact zSV_rel hok
            · cases e1)
        exact wp_value hrun (hk _ _ _ (rel_putT' (Γ := Δ) hd (wr := [(.row (th i 0), _)]) r2 x2) f2)
      · exact h.elim
    · exact h.elim
  · exact h.elim
/-! ### append -/
/-- A row becomes another one: the same block grown, or a new one. -/
theorem next_row {Γ nt a w g w'} (r : Rel Γ nt a w g) {h h' : Nat} (hu : Unm Γ h') {ty0 e0 : Nat} {xs0 : List SV} (hrow : Γ (.row h) = .row ty0 e0 xs0) (htag : ∀ b, (g.hd h).ownBlock = some b → g.o b = .row h) {v : Value} {ty e n : Nat} {vs : List Value} {xs : List SV} (he : 0 < e) (hn : xs.length = n * e)
    (hg : w.grownBy w' (g.hd h).ownBlock) (ho : w'.ownsRow 0 ty e v n vs) (hb : ∀ b, v.ownBlock = some b → (g.hd h).ownBlock = some b ∨ w.heap.size ≤ b) (hx : All2 (SVR w g.o) vs xs) :
    Rel (up (up Γ (.row h) .none) (.row h') (.row ty e xs)) nt a w' (g.newRow h' v) ∧ Fr w w' g.o (g.newRow h' v).o ∧ XR w' (g.newRow h' v) v (.p (.one (.sr h'))) := by
  have hlt := ho.lt
  have hne : h ≠ h' := fun e => by have := (hu (.row h)).2 e; rw [hrow] at this; simp at this
  have hold : ∀ b, b < w.heap.size → g.o b ≠ .row h → w'.heap[b]? = w.heap[b]? := fun b hb ht => hg.block b hb (fun e => ht (htag b e.symm))
  have ext : ∀ M : Nat → Prop, (∀ k, M k → k ≠ h') → Ext w w' g (g.newRow h' v) (some (.row h)) M := fun M hM =>
    ⟨hg.size, fun b hb' hn' => by
        have hnr : g.o b ≠ .row h := hn' _ rfl
        refine ⟨hold b (r.tags b hb') hnr, ?_⟩
        have hnv : v.ownBlock ≠ some b := fun e => by
          rcases hb b e with h1 | h1
          · exact hnr (htag b h1)
          · have := r.tags b hb'; omega
        simp [Gh.newRow, hnv],
      fun b hb' => by
        by_cases e : v.ownBlock = some b
        · exact (hlt b e).2
        · have := r.tags b (by simpa [Gh.newRow, e] using hb'); have := hg.size; omega,
      fun k hk => by simp [Gh.newRow, hM k hk], fun k _ => rfl⟩
  refine ⟨(r.extUp (c := .none) (ext _ fun k hk e => hk (e ▸ hu)) trivial).upd ?_, ⟨hg.os, hg.tape, hg.output, hg.size, fun b hb' hoo => ⟨hold b hb' (by rcases hoo with h1 | h1 <;> rw [h1] <;> simp), by
    have : v.ownBlock ≠ some b := fun e => by
      rcases hb b e with h1 | h1
      · have := htag b h1; rcases hoo with h2 | h2 <;> rw [h2] at this <;> simp at this
      · omega
    simp [Gh.newRow, this]⟩, fun b hb' ⟨k, hk⟩ => by
    have : v.ownBlock ≠ some b := fun e => by
      rcases hb b e with h1 | h1
      · have := htag b h1; rw [hk] at this; simp at this
      · omega
    exact ⟨by simp [Gh.newRow, this, hk, Tag.nr], Shp.of_eq (hold b hb' (by rw [hk]; simp))⟩⟩, by simp [XR, PXR, TVR, Gh.newRow]⟩
  exact ⟨n, vs, he, hn, .inl ⟨by simpa [Gh.newRow] using ho, fun b hb' => by
    have : v.ownBlock = some b := by simpa [Gh.newRow] using hb'
    simp [Gh.newRow, this]⟩, hx.mono fun u x => (ext (fun _ => False) (by simp)).svr⟩
/-- An empty slice without room is a row. -/
def Gh.zRow (g : Gh) (h : Nat) (v : Value) : Gh := { g with hd := fun k => if k = h then v else g.hd k }
theorem z_row {Γ nt a w g} (r : Rel Γ nt a w g) {h : Nat} (hu : Unm Γ h) {b : Addr} {ty e : Nat} (he : 0 < e) :
    Rel (up Γ (.row h) (.row ty e [])) nt a w (g.zRow h (.slice (some b) 0 0)) ∧ Fr w w g.o (g.zRow h (.slice (some b) 0 0)).o ∧ XR w (g.zRow h (.slice (some b) 0 0)) (.slice (some b) 0 0) (.p (.one (.sr h))) := by
  have ext : Ext w w g (g.zRow h (.slice (some b) 0 0)) none fun k => ¬ Unm Γ k :=
    ⟨Nat.le_refl _, fun _ _ _ => ⟨rfl, rfl⟩, fun b hb => r.tags b hb, fun k' hk => by
      have : k' ≠ h := fun e => hk (e ▸ hu)
      simp [Gh.zRow, this], fun _ _ => rfl⟩
  exact ⟨(r.ext ext).upd ⟨0, [], he, by simp, .inr ⟨rfl, rfl, b, by simp [Gh.zRow]⟩, .nil⟩, Fr.refl _ _, by simp [XR, PXR, TVR, Gh.zRow]⟩
theorem append_core {P : Program} {w : World} {t ty el : Nat} {ei : TI} (hu : P.underlying t = some (.slice el)) (hi : TIok P el ei) (h0 : 0 < ei.size) (hby : 0 < ei.bytes) (hzl : ei.zero.length = ei.size)
    {v : Value} {n : Nat} {vs : List Value} (hown : w.ownsRow 0 el ei.size v n vs) {ad : Option Addr} {m c : Nat} {news : List Value} (hn0 : ad = none → m = 0 ∧ c = 0) (hl : news.length = m * ei.size)
    (hnews : ∀ b, ad = some b → ∀ j u, news[j]? = some u → w.cell? (b.add j) = some u) (h1 : ∀ u ∈ news, u.oneCell' = true) (hbd : (n + m) * ei.bytes ≤ 140737488355328) :
    ∃ v' w', (Builtin.append_ #[t, t] ty #[v, .slice ad m c]).run P w = .ok v' w' ∧ w'.ownsRow 0 el ei.size v' (n + m) (vs ++ news) ∧ w.grownBy w' v.ownBlock ∧ (∀ b, v'.ownBlock = some b → v.ownBlock = some b ∨ w.heap.size ≤ b) := by
  obtain ⟨j, z, hj, hs, hb, hz, hc⟩ := hi.info'
  have hzs : z.cells.size = ei.size := by rw [← hzl]; have := congrArg List.length hc; simpa using this
  have hml : n + m ≤ maxLen := by
    have : n + m ≤ (n + m) * ei.bytes := Nat.le_mul_of_pos_right _ hby
    simp only [maxLen]; omega
  cases ad with
  | none =>
    obtain ⟨rfl, rfl⟩ := hn0 rfl
    have : news = [] := List.eq_nil_of_length_eq_zero (by simpa using hl)
    subst this
    refine ⟨v, w, run_append_owned_none (P := P) w 0 t ty el j ei.size hu hj v n vs hown, by simpa using hown, ⟨rfl, rfl, rfl, Nat.le_refl _, fun _ _ _ => rfl⟩, fun b hb => .inl hb⟩
  | some b =>
    obtain ⟨v', w', hr, h2, h3, h4⟩ := run_append_own (P := P) w 0 t ty el j z ei.size ei.bytes hu hj hz hs hb hzs h0 v n vs hown b m c news hl (hnews b rfl) h1 hml hbd (Nat.zero_le _)
    refine ⟨v', w', hr, h2, h3, fun bb hbb => ?_⟩
    have hbd' : (n + m) * j.bytes ≤ 140737488355328 := by rw [hb]; exact hbd
    have hsm : ((n + m : Nat) : Int) ≤ 9223372036854775807 := by simp only [maxLen] at hml; omega
    rcases hown.2 with ⟨rfl, rfl⟩ | ⟨gg, cap, cur, rfl, _, hg, hnc, hcm, hcs, htake⟩
    · by_cases hm : m = 0
      · have := h4.2 ⟨rfl, hm⟩
        rw [this] at hbb; simp [Value.ownBlock] at hbb
      · have e := run_append_nil (P := P) w t ty el j z hu hj hz b m c news (by rw [hs]; exact hl) (hnews b rfl) (by omega) (by omega) (by simp only [Nat.zero_add] at hbd'; omega)
        rw [e] at hr
        injection hr with e1 _
        rw [← e1] at hbb
        simp [Value.ownBlock] at hbb
        exact .inr (by omega)
    · by_cases hroom : n + m ≤ cap
      · have hfit : n * j.size + news.length ≤ cur.size := by rw [hl, hs, hcs, ← Nat.add_mul]; exact Nat.mul_le_mul_right _ hroom
        have e := run_append_room (P := P) w t ty el j hu hj gg n cap cur hg b m c news (by rw [hs]; exact hl) (hnews b rfl) h1 hroom hfit
        rw [e] at hr
        injection hr with e1 _
        rw [← e1] at hbb
        exact .inl hbb
      · have e := run_append_grow (P := P) w t ty el j z hu hj hz ⟨gg, 0, none⟩ n cap vs (by rw [hs]; exact hown.1) (hown.cells (g := gg) rfl) b m c news (by rw [hs]; exact hl) (hnews b rfl) (by omega) hsm (growslice_fits (by omega) hbd')
        rw [e] at hr
        injection hr with e1 _
        rw [← e1] at hbb
        simp [Value.ownBlock] at hbb
        exact .inr (by omega)
theorem append_z {P : Program} {w : World} {t ty el : Nat} {ei : TI} (hu : P.underlying t = some (.slice el)) (hi : TIok P el ei) (h0 : 0 < ei.size) (hby : 0 < ei.bytes) (hzl : ei.zero.length = ei.size)
    {b0 : Addr} {ad : Option Addr} {m c : Nat} {news : List Value} (hn0 : ad = none → m = 0 ∧ c = 0) (hl : news.length = m * ei.size)
    (hnews : ∀ b, ad = some b → ∀ j u, news[j]? = some u → w.cell? (b.add j) = some u) (h1 : ∀ u ∈ news, u.oneCell' = true) (hbd : m * ei.bytes ≤ 140737488355328) :
    ((m = 0 ∧ (Builtin.append_ #[t, t] ty #[.slice (some b0) 0 0, .slice ad m c]).run P w = .ok (.slice (some b0) 0 0) w) ∨
    ∃ v' w', (Builtin.append_ #[t, t] ty #[.slice (some b0) 0 0, .slice ad m c]).run P w = .ok v' w' ∧ w'.ownsRow 0 el ei.size v' m news ∧ w.grownBy w' none ∧ (∀ b, v'.ownBlock = some b → w.heap.size ≤ b)) := by
  obtain ⟨j, z, hj, hs, hb, hz, hc⟩ := hi.info'
  by_cases hm : m = 0
  · refine .inl ⟨hm, ?_⟩
    subst hm
    have hnn : news = [] := List.eq_nil_of_length_eq_zero (by simpa using hl)
    subst hnn
    cases ad with
    | none =>
      simp [Builtin.append_, run_underlying hu, sizeOf, typeInfo, hj, Builtin.lenOf, Builtin.firstCells, storeCells, go_sem]
    | some b =>
      have hf := run_firstCells_some (P := P) w j.size 0 b 0 c [] (by simp) (by simp)
      simp [Builtin.append_, run_underlying hu, sizeOf, typeInfo, hj, Builtin.lenOf, hf, storeCells, go_sem]
  · refine .inr ?_
    cases ad with
    | none => exact absurd (hn0 rfl).1 hm
    | some b =>
      have hbd' : m * j.bytes ≤ 140737488355328 := by rw [hb]; exact hbd
      have hsm : (m : Int) ≤ 9223372036854775807 := by
        have : m ≤ m * ei.bytes := Nat.le_mul_of_pos_right _ hby
        omega
      obtain ⟨v', w', e1, e2, e3, e4⟩ := append_core (ty := ty) hu hi h0 hby hzl (World.ownsRow_nil w 0 el ei.size) (n := 0) (ad := some b) (c := c) (by simp) hl (fun b' hb' => by cases hb'; exact hnews b rfl) h1 (by simpa using hbd)
      have q1 := run_append_nil (P := P) w t ty el j z hu hj hz b m c news (by rw [hs]; exact hl) (hnews b rfl) (by omega) (by omega) (by omega)
      have q2 := run_append_grow (P := P) w t ty el j z hu hj hz b0 0 0 [] (by simp) (by simp) b m c news (by rw [hs]; exact hl) (hnews b rfl) (by omega) (by omega) (growslice_fits (by omega) (by simpa using hbd'))
      simp only [Nat.zero_add] at q2
      rw [q1] at e1
      injection e1 with e5 e6
      refine ⟨v', w', ?_, by simpa using e2, by simpa [Value.ownBlock] using e3, fun b' hb' => by
        rcases e4 b' hb' with h | h
        · simp [Value.ownBlock] at h
        · exact h⟩
      rw [q2, ← e5, ← e6]
      simp
/-- What is appended: cells that are there. -/
theorem src_cells {Γ Δ nt a w g u x e ys rd} (h : slOf Γ x = some (e, ys, rd)) (hr : ∀ n ∈ rd, Δ n = Γ n) (r : Rel Δ nt a w g) (hx : XR w g u x) :
    ∃ ad m c news, u = .slice ad m c ∧ (ad = none → m = 0 ∧ c = 0) ∧ m = cnt e ys ∧ (ys ≠ [] → news.length = m * e) ∧ (∀ b, ad = some b → ∀ j v, news[j]? = some v → w.cell? (b.add j) = some v) ∧ All2 (SVR w g.o) news ys := by
  have key : SVR w g.o u (.sl e ys) → ∃ ad m c news, u = .slice ad m c ∧ (ad = none → m = 0 ∧ c = 0) ∧ m = cnt e ys ∧ (ys ≠ [] → news.length = m * e) ∧ (∀ b, ad = some b → ∀ j v, news[j]? = some v → w.cell? (b.add j) = some v) ∧ All2 (SVR w g.o) news ys := fun hx => by
    cases hx with
    | nil ad cap _ hn => exact ⟨ad, 0, cap, [], rfl, fun h => ⟨rfl, hn h⟩, by simp [cnt], by simp, fun b _ j v hj => by simp at hj, .nil⟩
    | sl b off len cap _ _ us hb he hl hx hc hu hm hr' =>
      refine ⟨_, len, cap, us, rfl, fun h => by simp at h, by rw [cnt, hx, Nat.mul_div_cancel _ he], fun _ => by rw [hu, hx], fun b' hb' j v hj => ?_, ⟨hu, hr'⟩⟩
      cases hb'
      rw [Addr.add_lit]
      exact hm j v hj
  unfold slOf at h
  split at h
  · cases h; exact key hx
  · cases h; exact key hx.1
  · rename_i hh
    split at h
    · rename_i ty e' zs hrow
      cases h
      have rr := r.row (h := hh) (by rw [hr _ (by simp), hrow])
      obtain ⟨ad, n, cap, h1, h2, h3, h4, h5, h6⟩ := rr.head
      obtain ⟨m, vs, he, hn, ho', hall⟩ := rr
      have hx' : u = g.hd hh := hx
      refine ⟨ad, n, cap, vs, hx'.trans h1, fun h => ?_, h2, fun _ => by rw [hall.1, h4], fun b hb j v hj => ?_, hall⟩
      · have := (h5 h).1
        subst this
        refine ⟨?_, (h5 h).2⟩
        rw [h2]; simp [cnt]
      · cases hb
        rcases ho' with ⟨ho, _⟩ | ⟨_, q2, _⟩
        · have hne : ys ≠ [] := fun hxs => by
            have := hall.1
            rw [hxs] at this
            have : vs = [] := List.eq_nil_of_length_eq_zero (by simpa using this)
            subst this
            simp at hj
          obtain ⟨k, rfl⟩ := h6 hne b rfl
          exact ho.cells (g := k) (by rw [h1]; rfl) j v hj
        · subst q2; simp at hj
    · cases h
  · cases h
    have hx' : u = _ := hx
    exact ⟨none, 0, 0, [], hx', fun _ => ⟨rfl, rfl⟩, by simp [cnt], by simp, (fun b hb => by cases hb), All2.nil⟩
  · cases h
/-- The row that is appended to. -/
def dstOf (Γ : Nm → C) (el e : Nat) (x : X) : Option (List SV × List Nat) :=
  match x with
  | .p (.one (.sr h)) => match Γ (.row h) with | .row ty e' xs => if ty = el ∧ e' = e then some (xs, [h]) else none | _ => none
  | .p (.one (.nl _ _)) => some ([], [])
  | _ => none
def vAppend (T : Tab) (Γ : Nm → C) (i : Nat) (o : Oper) (t1 t2 : Nat) (s x : Operand) (K : List Nm → List (Nm × C) → Prop) : Prop :=
  match T t1 with
  | some ⟨.slice el, _, _, _⟩ => match T el with
    | some ei => t1 = t2 ∧ 0 < ei.size ∧ 0 < ei.bytes ∧ ei.zero.length = ei.size ∧ match dstOf Γ el ei.size (opX Γ s), slOf Γ (opX Γ x) with
      | some (xs, hs), some (e, ys, rd) => (e = ei.size ∨ ys = []) ∧ (cnt ei.size xs + cnt ei.size ys) * ei.bytes ≤ 140737488355328 ∧
        K (opR s ++ opR x ++ hs.map .row ++ rd) (putT o.dst (.p (.one (.sr (th i 0)))) ++ ((.row (th i 0), .row el ei.size (xs ++ ys)) :: frzW hs))
      | _, _ => False
    | none => False
  | _ => False
theorem vAppend_ok {P T Γ nt i o t1 t2 s x c K} (hT : Tok P T) (hd : dOk nt o) (ho : o.op = .call c) (hc : c.callee = .builtin .append) (hat : c.argTypes = #[t1, t2]) (ha : c.args = #[s, x]) (h : vAppend T Γ i o t1 t2 s x K) : Good P nt i o Γ K := by
  unfold vAppend at h
  split at h
  · rename_i el sz by' ze ht
    split at h
    · rename_i ei hei
      obtain ⟨rfl, h0, hby, hzl, h⟩ := h
      split at h
      · rename_i xs hs e ys rd hdst hsrc
        obtain ⟨hey, hbd, h⟩ := h
        refine ⟨_, _, ?_, h⟩
        intro Δ a w g Q K' hr hu r hk
        have hti := hT el ei hei
        have hun := (hT t1 _ ht).slice rfl
        have hs1 := opX_rel r s
        rw [opX_congr (Γ := Γ) fun n hn => hr n (by simp [hn])] at hs1
        have hx1 := opX_rel r x
        rw [opX_congr (Γ := Γ) fun n hn => hr n (by simp [hn])] at hx1
        obtain ⟨ad, m, cp, news, hv, hn0, hm, hnl, hcells, hall⟩ := src_cells hsrc (fun n hn => hr n (List.mem_append_right _ hn)) r hx1
        have hm' : m = cnt ei.size ys := by rcases hey with rfl | rfl <;> simp [hm, cnt]
        have hnl' : news.length = m * ei.size := by
          rcases hey with rfl | rfl
          · by_cases hy : ys = []
            · subst hy; have := hall.1; rw [hm]; simp [cnt] at this ⊢; exact this
            · exact hnl hy
          · have := hall.1; rw [hm]; simp [cnt] at this ⊢; exact this
        have h1 : ∀ u ∈ news, u.oneCell' = true := fun u hu' => by
          obtain ⟨j, hj⟩ := List.mem_iff_getElem?.1 hu'
          have hlt : j < ys.length := by rw [← hall.1]; exact (List.getElem?_eq_some_iff.1 hj).1
          exact (hall.2 j u ys[j] hj (List.getElem?_eq_getElem hlt)).oneCell
        have hlen : ys.length = m * ei.size := by rw [← hall.1]; exact hnl'
        have hrun : ∀ v w' (sv : Value), a.eval s = sv → (Builtin.append_ #[t1, t1] o.type #[sv, .slice ad m cp]).run P w = .ok v w' → (execOp a.eval o).run P w = .ok (.value v) w' := fun v w' sv hsv hh => by
          rw [run_call_builtin ho hc, hat, ha]
          refine run_v ?_
          simp only [List.map_toArray, List.map_cons, List.map_nil, hsv, hv]
          exact hh
        unfold dstOf at hdst
        split at hdst
        · rename_i hh hxs
          split at hdst
          · rename_i ty e' xs' hrow
            split at hdst
            · rename_i hte
              obtain ⟨rfl, rfl⟩ := hte
              cases hdst
              have hrow' : Δ (.row hh) = .row ty ei.size xs := by rw [hr _ (by simp), hrow]
              obtain ⟨n, vs, he, hn, hown', hall2⟩ := r.row hrow'
              have hn' : n = cnt ei.size xs := by rw [cnt, hn, Nat.mul_div_cancel _ he]
              rw [hxs] at hs1
              have hsv : a.eval s = g.hd hh := hs1
              rcases hown' with ⟨hown, htag⟩ | ⟨q1, q2, b0, q3⟩
              case inr =>
                subst q1
                have hx0 : xs = [] := List.eq_nil_of_length_eq_zero (by simpa using hn)
                subst hx0
                rw [q3] at hsv
                have hu' := (hu (th i 0) (isTh_th (by omega))).frzW (hs := [hh])
                have r' : Rel (ups Δ (frzW [hh])) nt a w g := r.upNone _
                rcases append_z (ty := o.type) (b0 := b0) hun hti h0 hby hzl hn0 hnl' hcells h1 (by rw [hm']; simpa [cnt] using hbd) with ⟨z1, z2⟩ | ⟨v', w', z1, z2, z3, z4⟩
                · have hy0 : ys = [] := List.eq_nil_of_length_eq_zero (by rw [hlen, z1]; simp)
                  subst hy0
                  obtain ⟨r2, f2, x2⟩ := z_row r' hu' (b := b0) (ty := ty) (e := ei.size) h0
                  exact wp_value (hrun _ _ _ hsv z2) (hk _ _ _ (rel_putT' (Γ := Δ) hd (wr := (.row (th i 0), .row ty ei.size (([] : List SV) ++ ([] : List SV))) :: frzW [hh]) (show Rel (up (ups Δ (frzW [hh])) (.row (th i 0)) (.row ty ei.size (([] : List SV) ++ ([] : List SV)))) nt a w _ from r2) x2) f2)
                · obtain ⟨r2, f2, x2⟩ := new_row r' hu' (xs := [] ++ ys) h0 (by simpa using hlen) z3 z2 z4 (by simpa using hall)
                  exact wp_value (hrun v' w' _ hsv z1) (hk _ _ _ (rel_putT' (Γ := Δ) hd (wr := (.row (th i 0), _) :: frzW [hh]) r2 x2) f2)
              obtain ⟨v', w', hr', ho', hg', hb'⟩ := append_core (ty := o.type) hun hti h0 hby hzl hown hn0 hnl' hcells h1 (by rw [hn', hm']; exact hbd)
              obtain ⟨r2, f2, x2⟩ := next_row r (hu (th i 0) (isTh_th (by omega))) hrow' htag (xs := xs ++ ys) h0 (by rw [List.length_append, hn, hlen, Nat.add_mul]) hg' ho' hb' (hall2.append hall)
              exact wp_value (hrun v' w' _ hsv hr') (hk _ _ _ (rel_putT' (Γ := Δ) hd (wr := (.row (th i 0), _) :: frzW [hh]) r2 x2) f2)
            · cases hdst
          · cases hdst
        · rename_i hxs
          cases hdst
          rw [hxs] at hs1
          have hsv : a.eval s = .slice none 0 0 := hs1
          obtain ⟨v', w', hr', ho', hg', hb'⟩ := append_core (ty := o.type) hun hti h0 hby hzl (World.ownsRow_nil w 0 el ei.size) hn0 hnl' hcells h1 (by rw [hm']; simpa [cnt] using hbd)
          obtain ⟨r2, f2, x2⟩ := new_row r (hu (th i 0) (isTh_th (by omega))) (xs := ys) h0 (by rw [hlen]; congr 1; omega) hg' ho' (fun b hb => by
            rcases hb' b hb with h1 | h1
            · simp [Value.ownBlock] at h1
            · exact h1) (by simpa using hall)
          exact wp_value (hrun v' w' _ hsv hr') (hk _ _ _ (rel_putT' (Γ := Δ) hd (wr := [(.row (th i 0), _)]) r2 x2) f2)
        · cases hdst
      · exact h.elim
    · exact h.elim
  · exact h.elim
/-! ### cuts of own rows -/
def vSliceR (T : Tab) (Γ : Nm → C) (i : Nat) (o : Oper) (t : Nat) (x : Operand) (lo hi : Option Operand) (K : List Nm → List (Nm × C) → Prop) : Prop :=
  match T t with
  | some ⟨.slice el, _, _, _⟩ => match T el, opX Γ x with
    | some ei, .p (.one (.sr hh)) => match Γ (.row hh) with
      | .row ty e xs => match optI Γ 0 lo, optI Γ (cnt e xs : Int) hi with
        | some l, some h => e = ei.size ∧ 0 ≤ l ∧ l ≤ h ∧ h ≤ (cnt e xs : Int) ∧ match lo with
          | none => K (opR x ++ (optR lo ++ optR hi) ++ [.row hh]) (putT o.dst (.p (.one (.sr (th i 0)))) ++ [(.row (th i 0), .row ty e (xs.take (h.toNat * e))), (.row hh, .none)])
          | some _ => K (opR x ++ (optR lo ++ optR hi) ++ [.row hh]) (putT o.dst (.p (.one (.v (.sl e (cutSV e xs l h))))) ++ frzW [hh])
        | _, _ => False
      | _ => False
    | _, _ => False
  | _ => False
theorem optI_none {Γ d l} (h : optI Γ d none = some l) : l = d := by simp [optI] at h; exact h.symm
theorem vSliceR_ok {P T Γ nt i o t x lo hi K} (hT : Tok P T) (hd : dOk nt o) (ho : o.op = .slice t x lo hi none) (h : vSliceR T Γ i o t x lo hi K) : Good P nt i o Γ K := by
  unfold vSliceR at h
  split at h
  · rename_i el sz by' ze ht
    split at h
    · rename_i ei hh hei hx
      split at h
      · rename_i ty e xs hrow
        split at h
        · rename_i l hI hlo hhi
          obtain ⟨rfl, h0, h1, h2, h⟩ := h
          have base : ∀ (Δ : Nm → C) (a : Act) w g, (∀ n ∈ opR x ++ (optR lo ++ optR hi) ++ [.row hh], Δ n = Γ n) → Rel Δ nt a w g →
              ∃ ad n cap, g.hd hh = .slice ad n cap ∧ n = cnt ei.size xs ∧ a.eval x = g.hd hh ∧ Δ (.row hh) = .row ty ei.size xs ∧
                (execOp a.eval o).run P w = .ok (.value (.slice (if cap = l.toNat then ad else ad.map (·.add (l.toNat * ei.size))) (hI.toNat - l.toNat) (cap - l.toNat))) w := fun Δ a w g hr r => by
            have hx1 := opX_rel r x
            rw [opX_congr (Γ := Γ) fun n hn => hr n (by simp [hn]), hx] at hx1
            have hrow' : Δ (.row hh) = .row ty ei.size xs := by rw [hr _ (by simp), hrow]
            obtain ⟨ad, n, cap, e1, e2, e3, _⟩ := (r.row hrow').head
            have hv : a.eval x = g.hd hh := hx1
            refine ⟨ad, n, cap, e1, e2, hv, hrow', ?_⟩
            simp only [execOp, ho, hv, e1]
            exact run_v (run_slice_slice (a := a) ((hT t _ ht).slice rfl) (hT el ei hei) (run_bounds n cap true hlo (by rw [e2]; exact hhi) (fun n hn => hr n (by simp only [List.mem_append] at hn ⊢; exact .inl (.inr hn))) r h0 h1 (by rw [← e2] at h2; omega)))
          split at h
          · refine ⟨_, _, ?_, h⟩
            intro Δ a w g Q K' hr hu r hk
            obtain ⟨ad, n, cap, e1, e2, hv, hrow', hrun⟩ := base Δ a w g hr r
            obtain rfl := optI_none hlo
            obtain ⟨n', vs, he, hn, hown', hall⟩ := r.row hrow'
            have hnn : n' = n := by rw [e2, cnt, hn, Nat.mul_div_cancel _ he]
            subst hnn
            have hval : (Value.slice (if cap = (0 : Int).toNat then ad else ad.map (·.add ((0 : Int).toNat * ei.size))) (hI.toNat - (0 : Int).toNat) (cap - (0 : Int).toNat)) = .slice ad hI.toNat cap := by
              have : ad.map (·.add 0) = ad := by cases ad <;> simp [Addr.add]
              simp [this]
            rw [hval] at hrun
            rcases hown' with ⟨hown, htag⟩ | ⟨q1, q2, b0, q3⟩
            case inr =>
              subst q1
              have hx0 : xs = [] := List.eq_nil_of_length_eq_zero (by simpa using hn)
              subst hx0
              rw [e1] at q3
              cases q3
              have hI0 : hI.toNat = 0 := by omega
              have hu' := (hu (th i 0) (isTh_th (by omega))).frzW (hs := [hh])
              have r' : Rel (ups Δ (frzW [hh])) nt a w g := r.upNone _
              obtain ⟨r2, f2, x2⟩ := z_row r' hu' (b := b0) (ty := ty) (e := ei.size) he
              rw [hI0] at hrun
              exact wp_value hrun (hk _ _ _ (rel_putT' (Γ := Δ) hd (wr := [(.row (th i 0), .row ty ei.size (([] : List SV).take (hI.toNat * ei.size))), (.row hh, .none)]) (by rw [List.take_nil]; exact r2) x2) f2)
            have hle : hI.toNat ≤ n' := by omega
            have hown' : w.ownsRow 0 ty ei.size (.slice ad hI.toNat cap) hI.toNat (vs.take (hI.toNat * ei.size)) := by
              refine ⟨by simp [hown.1, Nat.min_eq_left (Nat.mul_le_mul_right ei.size hle)], ?_⟩
              rcases hown.2 with ⟨q1, q2⟩ | ⟨gg, cap', cur, q1, q2, q3, q4, q5, q6, q7⟩
              · rw [e1] at q1
                cases q1
                have : hI.toNat = 0 := by omega
                exact .inl ⟨by rw [this], this⟩
              · rw [e1] at q1
                cases q1
                exact .inr ⟨gg, cap, cur, rfl, q2, q3, by omega, q5, q6, by rw [← q7, List.take_take, Nat.min_eq_left (Nat.mul_le_mul_right _ hle)]⟩
            obtain ⟨r2, f2, x2⟩ := next_row r (hu (th i 0) (isTh_th (by omega))) hrow' htag (v := .slice ad hI.toNat cap) (xs := xs.take (hI.toNat * ei.size)) he (by simp [hn, Nat.min_eq_left (Nat.mul_le_mul_right ei.size hle)])
              (w' := w) ⟨rfl, rfl, rfl, Nat.le_refl _, fun _ _ _ => rfl⟩ hown' (fun b hb => .inl (by rw [e1]; cases ad <;> exact hb)) (hall.take _)
            exact wp_value hrun (hk _ _ _ (rel_putT' (Γ := Δ) hd (wr := [(.row (th i 0), _), (.row hh, .none)]) r2 x2) f2)
          · refine ⟨_, _, ?_, h⟩
            intro Δ a w g Q K' hr hu r hk
            obtain ⟨ad, n, cap, e1, e2, hv, hrow', hrun⟩ := base Δ a w g hr r
            have hsv := (r.row hrow').frz (hs := [hh]) (by simp)
            rw [e1] at hsv
            exact wp_value hrun (hk _ _ _ (rel_putT' (Γ := Δ) hd (wr := frzW [hh]) (r.frz [hh]) (hsv.cut e2 h0 h1 h2)) (Fr.frz w g [hh]))
        · exact h.elim
      · exact h.elim
    · exact h.elim
  · exact h.elim
end Go.Proofs.YtdpflafjfkooeaaG
/- G9: calls of Go functions, by what they give by value. -/
namespace Go.Proofs.YtdpflafjfkooeaaG
open Go Go.RowKit
set_option linter.unusedVariables false
set_option linter.unusedSimpArgs false
abbrev Rows := List (Nat × Nat × List SV)
def SV.isRaw : SV → Bool
  | .raw _ => true
  | _ => false
/-- Results: values and own rows alone; `raw`: no slice but own rows of scalars. -/
def TV.res : TV → Bool
  | .v _ | .sr _ => true
  | _ => false
def TV.rawR : TV → Bool
  | .v x => x.isRaw
  | .sr _ => true
  | _ => false
def PX.all (f : TV → Bool) : PX → Bool
  | .one x => f x
  | .agg xs => xs.all f
def X.all (f : TV → Bool) : X → Bool
  | .p x => x.all f
  | .tup xs => xs.all fun p => p.all f
structure CallOk (P : Program) (f : Nat) (args : List X) (res : X) (rows : Rows) (fr : Bool) : Prop where
  callable : ∀ vs w, (callFunc f vs).run P w = .ok (.enter f vs) w
  resok : res.all TV.res = true
  fresh : fr = true → res.all TV.rawR = true ∧ ∀ r ∈ rows, ∀ x ∈ r.2.2, x.isRaw = true
  calls : ∀ (w : World) (vs : List Value) (g : Gh), (∀ b, g.o b = .other ∨ g.o b = .imm) → (∀ b, g.o b ≠ .other → b < w.heap.size) → All2 (XR w g) vs args →
    Calls P f vs.toArray w fun e w' => ∃ v g', e = .returned v ∧ Fr w w' g.o g'.o ∧ (∀ b, g'.o b ≠ .other → b < w'.heap.size) ∧ XR w' g' v res ∧ ∀ k ty e xs, rows[k]? = some (ty, e, xs) → RowR w' g' k ty e xs
/-- Contents without homes. -/
def SVal : X → Prop
  | .p (.one (.v _)) => True
  | .p (.agg xs) => ∀ x ∈ xs, ∃ y, x = .v y
  | _ => False
/-- An iterator (its function, what it has caught): it hands over els, one by one, as long as it is asked to. -/
structure IterOk (P : Program) (gf : Nat) (caps : List SV) (els : List (List X)) : Prop where
  callable : ∀ vs w, (callFunc gf vs).run P w = .ok (.enter gf vs) w
  sval : ∀ xs ∈ els, ∀ x ∈ xs, SVal x
  run : ∀ (w : World) (vs : List Value) (g : Gh), (∀ b, g.o b = .other ∨ g.o b = .imm) → (∀ b, g.o b ≠ .other → b < w.heap.size) → All2 (SVR w g.o) vs caps → ∀ (l : Nat) (J : Nat → World → Prop) (Jx : World → Prop),
    (∀ k xs w1, els[k]? = some xs → J k w1 → w.heap.size ≤ w1.heap.size → (∀ b, g.o b = .imm → w1.heap[b]? = w.heap[b]?) → ∀ us, All2 (XR w1 g) us xs → YieldAt Fence.wide 0 P l us.toArray w1 fun e w2 =>
      (e = .returned (.bool true) ∧ J (k + 1) w2 ∧ w1.heap.size ≤ w2.heap.size ∧ (∀ b, g.o b = .imm → w2.heap[b]? = w1.heap[b]?)) ∨ (e = .returned (.bool false) ∧ Jx w2)) →
    J 0 w → Calls P gf (.func (.yield l) #[] #[] :: vs).toArray w fun e w' => (∃ v, e = .returned v) ∧ (J els.length w' ∨ Jx w')
/-- A function that is handed an own row, as its first argument. -/
structure CallM (P : Program) (f : Nat) (row : Nat × Nat × List SV) (args : List X) (res : X) (rows : Rows) : Prop where
  callable : ∀ vs w, (callFunc f vs).run P w = .ok (.enter f vs) w
  resok : res.all TV.res = true
  calls : ∀ (w : World) (vs : List Value) (g : Gh), (∀ b, g.o b = .other ∨ g.o b = .imm ∨ g.o b = .row 0) → (∀ b, g.o b ≠ .other → b < w.heap.size) → All2 (XR w g) vs (.p (.one (.sr 0)) :: args) → RowR w g 0 row.1 row.2.1 row.2.2 →
    Calls P f vs.toArray w fun e w' => ∃ v g', e = .returned v ∧ Fr w w' g.o g'.o ∧ (∀ b, g'.o b ≠ .other → b < w'.heap.size) ∧ XR w' g' v res ∧ ∀ k ty e xs, rows[k]? = some (ty, e, xs) → RowR w' g' k ty e xs
/-- What a call that is lent own variables comes to: a result by value, the variables behind it (of one without cells nothing is told); or a panic. -/
abbrev Boxes := List (Nat × List TV)
inductive Out where
  | ret (res : X) (bs : Boxes)
  | pan (v : Value)
/-- A lent variable's contents: values, pointers to lent variables. -/
def TV.lent : TV → Bool
  | .v _ | .pr _ _ | .dead => true
  | _ => false
def TV.isV : TV → Bool
  | .v _ => true
  | _ => false
def Out.ok (n : Nat) : Out → Prop
  | .ret res bs => res.all TV.isV = true ∧ bs.length = n ∧ ∀ b ∈ bs, ∀ x ∈ b.2, x.lent = true
  | .pan _ => True
def Out.post (w : World) (g : Gh) (e : Ending) (w' : World) : Out → Prop
  | .ret res bs => ∃ v g', e = .returned v ∧ Fr w w' g.o g'.o ∧ (∀ b, g'.o b ≠ .other → b < w'.heap.size) ∧ XR w' g' v res ∧ ∀ k ty xs, bs[k]? = some (ty, xs) → xs ≠ [] → BoxR w' g' k ty xs ∧ g'.bk k = g.bk k
  | .pan v => e = .panicked [{ v := v, recovered := false }] ∧ ∃ o', Fr w w' g.o o'
structure CallB (P : Program) (f : Nat) (bs : Boxes) (args : List X) (out : Out) : Prop where
  callable : ∀ vs w, (callFunc f vs).run P w = .ok (.enter f vs) w
  resok : out.ok bs.length
  calls : ∀ (w : World) (vs : List Value) (g : Gh), (∀ b, g.o b = .other ∨ g.o b = .imm ∨ ∃ k, g.o b = .box k) → (∀ b, g.o b ≠ .other → b < w.heap.size) → All2 (XR w g) vs args → (∀ k ty xs, bs[k]? = some (ty, xs) → BoxR w g k ty xs) →
    Calls P f vs.toArray w fun e w' => out.post w g e w'
/-- What is known of functions: by arguments, what they give (with what has to be shown ahead); of iterators; of those that are handed an own row (mv); and of those that are lent own variables (bx). -/
structure Orc where
  f : Nat → List X → (X → Rows → Bool → Prop) → Prop
  it : Nat → List SV → (List (List X) → Prop) → Prop
  m : Nat → Nat × Nat × List SV → List X → (X → Rows → Prop) → Prop
  mv : Nat → Bool
  b : Nat → Boxes → List X → (Out → Prop) → Prop
  bx : Nat → Bool
structure OrcOk (P : Program) (O : Orc) : Prop where
  b : ∀ f bs args K, O.b f bs args K → ∃ out, CallB P f bs args out ∧ K out
  m : ∀ f r args K, O.m f r args K → ∃ res rows, CallM P f r args res rows ∧ K res rows
  f : ∀ f args K, O.f f args K → ∃ res rows fr, CallOk P f args res rows fr ∧ K res rows fr
  it : ∀ gf caps K, O.it gf caps K → ∃ els, IterOk P gf caps els ∧ K els
def byVal (Γ : Nm → C) : X → Option (X × List Nat)
  | .p (.one x) => (frzT Γ x).map fun p => (.p (.one (.v p.1)), p.2)
  | .p (.agg xs) => (frzL Γ xs).map fun p => (.p (.agg (p.1.map .v)), p.2)
  | .tup _ => none
theorem byVal_rel {Γ Δ nt a w g u x y hs0 hs} (r : Rel Δ nt a w g) (h : byVal Γ x = some (y, hs0)) (hr : ∀ k ∈ hs0, Δ (.row k) = Γ (.row k)) (hsub : ∀ k ∈ hs0, k ∈ hs) (hx : XR w g u x) : XR w (g.frz hs) u y := by
  unfold byVal at h
  split at h
  · obtain ⟨⟨s, hs1⟩, h1, h2⟩ := Option.map_eq_some_iff.1 h
    cases h2
    exact frzT_rel r h1 hr hsub hx
  · obtain ⟨⟨s, hs1⟩, h1, h2⟩ := Option.map_eq_some_iff.1 h
    cases h2
    obtain ⟨cs, hv, hall⟩ := hx
    exact ⟨cs, hv, (frzL_rel r h1 hr hsub hall).svTv⟩
  · cases h
def argsV (T : Tab) (Γ : Nm → C) : List Nat → List Operand → Option (List X × List Nat)
  | _, [] => some ([], [])
  | ts, x :: r => match byVal Γ (nlAs T (ts.headD 0) (opX Γ x)), argsV T Γ (ts.drop 1) r with
    | some (y, h1), some (ys, h2) => some (y :: ys, h1 ++ h2)
    | _, _ => none
theorem argsV_rel {T Γ Δ nt a w g} (r : Rel Δ nt a w g) {hs} : ∀ {xs : List Operand} {ts ys hs0}, argsV T Γ ts xs = some (ys, hs0) → (∀ n ∈ xs.flatMap opR, Δ n = Γ n) → (∀ k ∈ hs0, Δ (.row k) = Γ (.row k)) → (∀ k ∈ hs0, k ∈ hs) →
    All2 (XR w (g.frz hs)) (xs.map a.eval) ys := by
  intro xs
  induction xs with
  | nil => intro ts ys hs0 h _ _ _; simp [argsV] at h; obtain ⟨rfl, rfl⟩ := h; exact .nil
  | cons x xs ih =>
    intro ts ys hs0 h h1 h2 h3
    simp only [argsV] at h
    split at h
    · rename_i y e1 ys' e2 q1 q2
      cases h
      have hx := opX_rel r x
      rw [opX_congr (Γ := Γ) fun n hn => h1 n (by simp [hn])] at hx
      exact .cons (byVal_rel r q1 (fun k hk => h2 k (by simp [hk])) (fun k hk => h3 k (by simp [hk])) (nlAs_rel hx)) (ih q2 (fun n hn => h1 n (by simp only [List.flatMap_cons, List.mem_append]; exact .inr hn)) (fun k hk => h2 k (by simp [hk])) (fun k hk => h3 k (by simp [hk])))
    · cases h
def TV.sh (b : Nat) : TV → TV
  | .sr k => .sr (b + k)
  | x => x
def PX.sh (b : Nat) : PX → PX
  | .one x => .one (x.sh b)
  | .agg xs => .agg (xs.map (TV.sh b))
def X.sh (b : Nat) : X → X
  | .p x => .p (x.sh b)
  | .tup xs => .tup (xs.map (PX.sh b))
def rowsW (b : Nat) : Nat → Rows → List (Nm × C)
  | _, [] => []
  | k, (ty, e, xs) :: r => (.row (b + k), .row ty e xs) :: rowsW b (k + 1) r
/-- The ghosts behind a call. -/
def Gh.after (g : Gh) (B n : Nat) (g' : Gh) : Gh where
  o := fun b => if b < n then g.o b else match g'.o b with | .row k => .row (B + k) | .imm => .imm | _ => .other
  hd := fun k => if B ≤ k ∧ k < B + 100 then g'.hd (k - B) else g.hd k
  bk := g.bk
def Gh.callee (g : Gh) : Gh := { o := fun b => if g.o b = .imm then .imm else .other, hd := g.hd, bk := g.bk }
theorem SVR.callee {w : World} {g : Gh} {u : Value} {x : SV} (h : SVR w g.o u x) : SVR w g.callee.o u x := h.mono fun b hb => ⟨by simp [Gh.callee, hb], rfl⟩
theorem byVal_sval {Γ x y hs} (h : byVal Γ x = some (y, hs)) : SVal y := by
  unfold byVal at h
  split at h
  · obtain ⟨⟨s, hs1⟩, h1, h2⟩ := Option.map_eq_some_iff.1 h; cases h2; trivial
  · obtain ⟨⟨s, hs1⟩, h1, h2⟩ := Option.map_eq_some_iff.1 h; cases h2; intro x hx; obtain ⟨y, _, rfl⟩ := List.mem_map.1 hx; exact ⟨y, rfl⟩
  · cases h
theorem SVal.callee {w g u x} (hs : SVal x) (h : XR w g u x) : XR w g.callee u x := by
  cases x with
  | tup xs => exact hs.elim
  | p p => cases p with
    | one y => cases y <;> first | exact SVR.callee h | exact absurd hs (by simp [SVal])
    | agg xs =>
      obtain ⟨cs, hv, hall⟩ := h
      refine ⟨cs, hv, hall.mono' fun u y hy hr => ?_⟩
      obtain ⟨z, rfl⟩ := hs y hy
      exact SVR.callee hr
theorem argsV_sval {T Γ} : ∀ {xs : List Operand} {ts ys hs0}, argsV T Γ ts xs = some (ys, hs0) → ∀ y ∈ ys, SVal y := by
  intro xs
  induction xs with
  | nil => intro ts ys hs0 h; simp [argsV] at h; obtain ⟨rfl, rfl⟩ := h; simp
  | cons x xs ih =>
    intro ts ys hs0 h y hy
    simp only [argsV] at h
    split at h
    · rename_i y' e1 ys' e2 q1 q2
      cases h
      rcases List.mem_cons.1 hy with rfl | hy
      · exact byVal_sval q1
      · exact ih q2 y hy
    · cases h
section
variable {Δ : Nm → C} {nt : Nat} {a : Act} {w w' : World} {g g' : Gh} {B : Nat}
/-- How the callee's ghosts stand to the caller's behind the call; `hs`: what was lent. -/
theorem frz_nil (g : Gh) : g.frz [] = g := by
  have e0 : (g.frz []).o = g.o := funext fun b => by
    simp only [Gh.frz]
    cases hgo : g.o b <;> simp
  show Gh.mk (g.frz []).o _ _ = _
  rw [e0]
structure Aft (w w' : World) (g g' : Gh) (hs : List Nat) : Prop where
  fr : Fr w w' (g.frz hs).callee.o g'.o
  lt : ∀ b, g'.o b ≠ .other → b < w'.heap.size
theorem Aft.old {hs} (h : Aft w w' g g' hs) {b : Nat} (hb : b < w.heap.size) : w'.heap[b]? = w.heap[b]? ∧ g'.o b = (g.frz hs).callee.o b :=
  h.fr.keep b hb (by simp only [Gh.callee]; split <;> simp)
theorem Aft.svr {hs} (h : Aft w w' g g' hs) (hk : hs = []) {u x} (r : SVR w' g'.o u x) : SVR w' (g.after B w.heap.size g').o u x := r.mono fun b hb => by
  refine ⟨?_, rfl⟩
  simp only [Gh.after]
  by_cases hlt : b < w.heap.size
  · rw [if_pos hlt]
    have := (h.old hlt).2
    rw [hb, hk, frz_nil] at this
    simp only [Gh.callee] at this
    split at this
    · rename_i hh; exact hh
    · simp at this
  · rw [if_neg hlt, hb]
theorem Aft.svr' {hs} (h : Aft w w' g g' hs) {u} {x : SV} (hx : x.isRaw = true) (r : SVR w' g'.o u x) : SVR w' (g.after B w.heap.size g').o u x := by
  cases r with
  | raw _ hv => exact .raw _ hv
  | nil => simp [SV.isRaw] at hx
  | sl => simp [SV.isRaw] at hx
  | pt => simp [SV.isRaw] at hx
  | clo => simp [SV.isRaw] at hx
theorem Aft.tvr {hs} (h : Aft w w' g g' hs) {u : Value} {x : TV} (hk : hs = [] ∧ x.res = true ∨ x.rawR = true) (hsz : ∀ k, x = .sr k → k < 100) (r : TVR w' g' u x) : TVR w' (g.after B w.heap.size g') u (x.sh B) := by
  cases x with
  | v y =>
    rcases hk with ⟨h1, _⟩ | h1
    · exact h.svr h1 r
    · exact h.svr' h1 r
  | sr k =>
    have hlt := hsz k rfl
    have r' : u = g'.hd k := r
    show u = (g.after B w.heap.size g').hd (B + k)
    simp [Gh.after, r', hlt]
  | _ => rcases hk with ⟨_, h1⟩ | h1 <;> simp [TV.res, TV.rawR] at h1
end
def TV.small (n : Nat) : TV → Bool
  | .sr k => decide (k < n)
  | _ => true
theorem Aft.pxr {w w' g g' hs B} (h : Aft w w' g g' hs) {u} {x : PX} (hk : hs = [] ∧ x.all TV.res = true ∨ x.all TV.rawR = true) (hsz : x.all (TV.small 90) = true) (r : PXR w' g' u x) : PXR w' (g.after B w.heap.size g') u (x.sh B) := by
  have hs' : ∀ y : TV, y.small 90 = true → ∀ k, y = .sr k → k < 100 := fun y hy k e => by subst e; simp [TV.small] at hy; omega
  cases x with
  | one y => exact h.tvr (by simpa [PX.all] using hk) (hs' y (by simpa [PX.all] using hsz)) r
  | agg xs =>
    obtain ⟨cs, hv, hall⟩ := r
    refine ⟨cs, hv, by simp [hall.1], fun j u y h1 h2 => ?_⟩
    simp only [List.getElem?_map] at h2
    cases hx : xs[j]? with
    | none => simp [hx] at h2
    | some z =>
      simp [hx] at h2
      subst h2
      have hmem := List.mem_of_getElem? hx
      refine h.tvr ?_ (hs' z (List.all_eq_true.1 hsz z hmem)) (hall.2 j u z h1 hx)
      rcases hk with ⟨q1, q2⟩ | q2
      · exact .inl ⟨q1, List.all_eq_true.1 q2 z hmem⟩
      · exact .inr (List.all_eq_true.1 q2 z hmem)
theorem Aft.xr {w w' g g' hs B} (h : Aft w w' g g' hs) {u} {x : X} (hk : hs = [] ∧ x.all TV.res = true ∨ x.all TV.rawR = true) (hsz : x.all (TV.small 90) = true) (r : XR w' g' u x) : XR w' (g.after B w.heap.size g') u (x.sh B) := by
  cases x with
  | p y => exact h.pxr hk hsz r
  | tup xs =>
    obtain ⟨cs, hv, hall⟩ := r
    refine ⟨cs, hv, by simp [hall.1], fun j u y h1 h2 => ?_⟩
    simp only [List.getElem?_map] at h2
    cases hx : xs[j]? with
    | none => simp [hx] at h2
    | some z =>
      simp [hx] at h2
      subst h2
      have hmem := List.mem_of_getElem? hx
      refine h.pxr ?_ (List.all_eq_true.1 hsz z hmem) (hall.2 j u z h1 hx)
      rcases hk with ⟨q1, q2⟩ | q2
      · exact .inl ⟨q1, List.all_eq_true.1 q2 z hmem⟩
      · exact .inr (List.all_eq_true.1 q2 z hmem)
theorem rel_rowsW {nt a w g B} : ∀ {rows : Rows} {k : Nat} {Γ : Nm → C}, Rel Γ nt a w g → (∀ j ty e xs, rows[j]? = some (ty, e, xs) → RowR w g (B + (k + j)) ty e xs) → Rel (ups Γ (rowsW B k rows)) nt a w g
  | [], k, Γ, r, _ => r
  | (ty, e, xs) :: rest, k, Γ, r, h => by
    simp only [rowsW, ups]
    refine Rel.upd (rel_rowsW r fun j ty' e' xs' hj => ?_) (h 0 ty e xs rfl)
    have := h (j + 1) ty' e' xs' (by simpa using hj)
    rwa [show k + (j + 1) = k + 1 + j by omega] at this
theorem call_core {P : Program} {Δ : Nm → C} {nt i : Nat} {a : Act} {w w' : World} {g g' : Gh} {hs : List Nat} {rows : Rows} {res : X} {v : Value} (r : Rel Δ nt a w g) (hu : ∀ k, isTh i k → Unm Δ k) (h : Aft w w' g g' hs)
    (hk : hs = [] ∧ res.all TV.res = true ∨ (res.all TV.rawR = true ∧ ∀ r ∈ rows, ∀ x ∈ r.2.2, x.isRaw = true)) (hsz : res.all (TV.small 90) = true) (hrl : rows.length ≤ 90)
    (hx : XR w' g' v res) (hrows : ∀ k ty e xs, rows[k]? = some (ty, e, xs) → RowR w' g' k ty e xs) :
    Rel (ups Δ (rowsW (th i 0) 0 rows)) nt a w' (g.after (th i 0) w.heap.size g') ∧ Fr w w' g.o (g.after (th i 0) w.heap.size g').o ∧ XR w' (g.after (th i 0) w.heap.size g') v (res.sh (th i 0)) := by
  have hnotth : ∀ k, ¬ Unm Δ k → ¬ (th i 0 ≤ k ∧ k < th i 0 + 100) := fun k hk hc => hk (hu k (by unfold isTh; unfold th at hc; omega))
  have ext : Ext w w' g (g.after (th i 0) w.heap.size g') none fun k => ¬ Unm Δ k :=
    ⟨h.fr.size, fun b hb _ => ⟨(h.old (r.tags b hb)).1, by simp [Gh.after, r.tags b hb]⟩,
      fun b hb => by
        by_cases hlt : b < w.heap.size
        · exact Nat.lt_of_lt_of_le hlt h.fr.size
        · refine h.lt b fun e => hb ?_
          simp [Gh.after, hlt, e],
      fun k hk => by simp only [Gh.after]; rw [if_neg (hnotth k hk)], fun k _ => rfl⟩
  refine ⟨rel_rowsW (r.ext ext) fun j ty e xs hj => ?_, ⟨h.fr.os, h.fr.tape, h.fr.output, h.fr.size, fun b hb _ => ⟨(h.old hb).1, by simp [Gh.after, hb]⟩, fun b hb ⟨k, hk⟩ => ⟨by simp [Gh.after, hb, hk, Tag.nr], Shp.of_eq (h.old hb).1⟩⟩, h.xr (hk.imp id (·.1)) hsz hx⟩
  obtain ⟨n, vs, he, hn, ho', hall⟩ := hrows j ty e xs hj
  have hjl : j < rows.length := (List.getElem?_eq_some_iff.1 hj).1
  have hhd : (g.after (th i 0) w.heap.size g').hd (th i 0 + (0 + j)) = g'.hd j := by simp only [Gh.after]; rw [if_pos (by omega)]; congr 1; omega
  refine ⟨n, vs, he, hn, ?_, ?_⟩
  rotate_left
  · rcases hk with ⟨q1, _⟩ | ⟨_, q2⟩
    · exact hall.mono fun u x => h.svr q1
    · exact hall.mono' fun u x hx => h.svr' (q2 _ (List.mem_of_getElem? hj) x hx)
  · unfold OwnR
    rw [hhd]
    rcases ho' with ⟨ho, htag⟩ | hz
    case inr => exact .inr hz
    refine .inl ⟨ho, fun b hb => ?_⟩
    have ht := htag b hb
    have hnl : ¬ b < w.heap.size := fun hlt => by
      have := (h.old hlt).2
      rw [ht] at this
      simp only [Gh.callee] at this
      split at this <;> simp at this
    simp [Gh.after, hnl, ht]
def vCallG (T : Tab) (O : Orc) (Γ : Nm → C) (i : Nat) (o : Oper) (rd0 : List Nm) (f : Nat) (caps : List SV) (ts : List Nat) (xs : List Operand) (K : List Nm → List (Nm × C) → Prop) : Prop :=
  match argsV T Γ ts xs with
  | some (ys, hs) => O.f f (ys ++ caps.map fun s => .p (.one (.v s))) fun res rows fr => res.all (TV.small 90) = true ∧ rows.length ≤ 90 ∧
      if fr || hs.isEmpty then K (rd0 ++ (xs.flatMap opR ++ hs.map .row)) (putT o.dst (res.sh (th i 0)) ++ rowsW (th i 0) 0 rows)
      else K (rd0 ++ (xs.flatMap opR ++ hs.map .row)) (putT o.dst (res.sh (th i 0)) ++ (rowsW (th i 0) 0 rows ++ frzW hs))
  | none => False
def vCall (T : Tab) (O : Orc) (Γ : Nm → C) (i : Nat) (o : Oper) (rd0 : List Nm) (f : Nat) (ts : List Nat) (xs : List Operand) (K : List Nm → List (Nm × C) → Prop) : Prop :=
  match argsV T Γ ts xs with
  | some (ys, hs) => O.f f ys fun res rows fr => res.all (TV.small 90) = true ∧ rows.length ≤ 90 ∧
      if fr || hs.isEmpty then K (rd0 ++ (xs.flatMap opR ++ hs.map .row)) (putT o.dst (res.sh (th i 0)) ++ rowsW (th i 0) 0 rows)
      else K (rd0 ++ (xs.flatMap opR ++ hs.map .row)) (putT o.dst (res.sh (th i 0)) ++ (rowsW (th i 0) 0 rows ++ frzW hs))
  | none => False
theorem ups_append (Γ : Nm → C) (a b : List (Nm × C)) : ups Γ (a ++ b) = ups (ups Γ b) a := by
  induction a with
  | nil => rfl
  | cons p a ih => simp only [List.cons_append, ups, ih]
theorem vCallG_ok {P T O Γ nt i o c f caps K cx rd0} (hO : OrcOk P O) (hd : dOk nt o) (ho : o.op = .call c) (hc : c.callee = .value cx) (hcal : ∀ (Δ : Nm → C) (a : Act) w g, (∀ n ∈ rd0, Δ n = Γ n) → Rel Δ nt a w g → ∃ lb : List Value, a.eval cx = .func (.func f) #[] lb.toArray ∧ All2 (SVR w g.o) lb caps)
    (h : vCallG T O Γ i o rd0 f caps c.argTypes.toList c.args.toList K) : Good P nt i o Γ K := by
  unfold vCallG at h
  split at h
  · rename_i ys hs hargs
    obtain ⟨res, rows, fr, hcall, hsz, hrl, h⟩ := hO.f _ _ _ h
    have hexec : ∀ (a : Act) (w : World) (lb : Array Value), a.eval cx = .func (.func f) #[] lb → (execOp a.eval o).run P w = .ok (.enter f (c.args.map a.eval ++ lb)) w := fun a w lb hcx => by
      have := hcall.callable (c.args.map a.eval ++ lb) w
      have e1 : execOp a.eval o = (do let d ← resolve a.eval c o.type; invoke d.target d.args) := by simp only [execOp, ho]
      have e2 : (resolve a.eval c o.type).run P w = .ok { target := .fn (.func f) lb, args := c.args.map a.eval } w := by
        unfold resolve
        rw [hc]
        simp only [hcx]
        show (Deferred.ofValue (.func (.func f) #[] lb) (c.args.map a.eval)).run P w = _
        simp [Deferred.ofValue]
      rw [e1, run_bind_ok e2]
      unfold invoke
      simpa using this
    have hcore : ∀ (Δ : Nm → C) (a : Act) (w : World) (g : Gh) Q K', (∀ n ∈ rd0 ++ (c.args.toList.flatMap opR ++ hs.map .row), Δ n = Γ n) → Rel Δ nt a w g →
        (∀ v w' g', Aft w w' g g' hs → XR w' g' v res → (∀ k ty e xs, rows[k]? = some (ty, e, xs) → RowR w' g' k ty e xs) → K' (a.put o.dst v) w') → o.wp P a w K' Q := fun Δ a w g Q K' hr r hk => by
      obtain ⟨lb, hcx, hlb⟩ := hcal Δ a w g (fun n hn => hr n (List.mem_append_left _ hn)) r
      have hrel := argsV_rel (hs := hs) r hargs (fun n hn => hr n (List.mem_append_right _ (List.mem_append_left _ hn))) (fun k hk => hr _ (by simp [hk])) (fun k hk => hk)
      have hsv := argsV_sval hargs
      have hcp : All2 (XR w (g.frz hs).callee) lb (caps.map fun s => .p (.one (.v s))) := by
        refine ⟨by simp [hlb.1], fun j u x h1 h2 => ?_⟩
        rw [List.getElem?_map] at h2
        cases hx : caps[j]? with
        | none => simp [hx] at h2
        | some y => simp [hx] at h2; subst h2; exact SVR.callee (frz_svr (hlb.2 j u y h1 hx))
      have hcl := hcall.calls w (c.args.toList.map a.eval ++ lb) (g.frz hs).callee (fun b => by simp only [Gh.callee]; split <;> simp) (fun b hb => by
        refine r.tags b fun e => hb ?_
        have : (g.frz hs).o b = .other := frz_other.2 e
        simp [Gh.callee, this]) ((hrel.mono' fun u y hy => (hsv y hy).callee).append hcp)
      unfold Oper.wp
      rw [hexec a w _ hcx]
      show Calls P f (c.args.map a.eval ++ lb.toArray) w _
      have e : (c.args.toList.map a.eval ++ lb).toArray = c.args.map a.eval ++ lb.toArray := by rw [← Array.toList_map]; simp
      rw [e] at hcl
      refine hcl.mono fun en w' hh => ?_
      obtain ⟨v, g', rfl, h1, h2, h3, h4⟩ := hh
      exact hk v w' g' ⟨h1, h2⟩ h3 h4
    split at h
    · rename_i hcond
      refine ⟨_, _, ?_, h⟩
      intro Δ a w g Q K' hr hu r hk
      refine hcore Δ a w g Q K' hr r fun v w' g' h1 h2 h3 => ?_
      have hcond' : hs = [] ∧ res.all TV.res = true ∨ (res.all TV.rawR = true ∧ ∀ r ∈ rows, ∀ x ∈ r.2.2, x.isRaw = true) := by
        simp only [Bool.or_eq_true, List.isEmpty_iff] at hcond
        rcases hcond with hf | hn
        · exact .inr (hcall.fresh hf)
        · exact .inl ⟨hn, hcall.resok⟩
      obtain ⟨r2, f2, x2⟩ := call_core (P := P) r hu h1 hcond' hsz hrl h2 h3
      exact hk _ _ _ (rel_putT' (Γ := Δ) hd r2 x2) f2
    · refine ⟨_, _, ?_, h⟩
      intro Δ a w g Q K' hr hu r hk
      refine hcore Δ a w g Q K' hr r fun v w' g' h1 h2 h3 => ?_
      have h1' : Aft w w' (g.frz hs) g' [] := by
        refine ⟨?_, h1.lt⟩
        rw [frz_nil]
        exact h1.fr
      obtain ⟨r2, f2, x2⟩ := call_core (P := P) (r.frz hs) (fun k hk => (hu k hk).frzW) h1' (.inl ⟨rfl, hcall.resok⟩) hsz hrl h2 h3
      rw [← ups_append] at r2
      exact hk _ _ _ (rel_putT' (Γ := Δ) hd r2 x2) ((Fr.frz w g hs).trans f2)
  · exact h.elim
theorem vCall_ok {P T O Γ nt i o c f K cx rd0} (hO : OrcOk P O) (hd : dOk nt o) (ho : o.op = .call c) (hc : c.callee = .value cx) (hcal : ∀ (Δ : Nm → C) (a : Act) w g, (∀ n ∈ rd0, Δ n = Γ n) → Rel Δ nt a w g → a.eval cx = .func (.func f) #[] #[])
    (h : vCall T O Γ i o rd0 f c.argTypes.toList c.args.toList K) : Good P nt i o Γ K := by
  refine vCallG_ok (T := T) (caps := []) hO hd ho hc (fun Δ a w g hr r => ⟨[], hcal Δ a w g hr r, .nil⟩) ?_
  unfold vCall at h
  unfold vCallG
  simpa using h
/-! ### an own row that is handed over -/
/-- What is handed over is no longer one's own. -/
def Gh.rl (g : Gh) (p : Tag → Bool) : Gh := { o := fun b => if p (g.o b) = true then .other else g.o b, hd := g.hd, bk := g.bk }
/-- The ghosts of the callee. -/
def Gh.mc (g : Gh) (p : Tag → Bool) (v : Value) : Gh := { o := fun b => if p (g.o b) = true then .row 0 else if g.o b = .imm then .imm else .other, hd := fun _ => v, bk := g.bk }
/-- Behind the call. -/
def Gh.ma (g : Gh) (B : Nat) (g' : Gh) : Gh where
  o := fun b => if g.o b ≠ .other then g.o b else match g'.o b with | .row k => .row (B + k) | .imm => .imm | _ => .other
  hd := fun k => if B ≤ k ∧ k < B + 100 then g'.hd (k - B) else g.hd k
  bk := g.bk
def rowP (h : Nat) : Tag → Bool
  | .row k => decide (k = h)
  | _ => false
theorem rl_svr {w : World} {g : Gh} {p : Tag → Bool} (hp : p .imm = false) {v : Value} {x : SV} (r : SVR w g.o v x) : SVR w (g.rl p).o v x := r.mono fun b hb => ⟨by simp [Gh.rl, hb, hp], rfl⟩
theorem mc_svr {w : World} {g : Gh} {p : Tag → Bool} {u : Value} (hp : p .imm = false) {v : Value} {x : SV} (r : SVR w g.o v x) : SVR w (g.mc p u).o v x := r.mono fun b hb => ⟨by simp [Gh.mc, hb, hp], rfl⟩
theorem rl_tvr {w : World} {g : Gh} {p : Tag → Bool} (hp : p .imm = false) {v : Value} {x : TV} (r : TVR w g v x) : TVR w (g.rl p) v x := by
  cases x with
  | v x => exact rl_svr hp r
  | cp xs k => exact (rl_svr hp (CPR.svr r)).cpr
  | nn e xs => exact ⟨rl_svr hp r.1, r.2⟩
  | _ => exact r
theorem rl_xr {w : World} {g : Gh} {p : Tag → Bool} (hp : p .imm = false) {v : Value} {x : X} (r : XR w g v x) : XR w (g.rl p) v x := by
  have key : ∀ {v : Value} {x : PX}, PXR w g v x → PXR w (g.rl p) v x := fun {v x} r => by
    cases x with
    | one x => exact rl_tvr hp r
    | agg xs => obtain ⟨cs, h1, h2⟩ := r; exact ⟨cs, h1, h2.mono fun _ _ => rl_tvr hp⟩
  cases x with
  | p x => exact key r
  | tup xs => obtain ⟨vs, h1, h2⟩ := r; exact ⟨vs, h1, h2.mono fun _ _ => key⟩
theorem Rel.rlr {Γ nt a w g} (r : Rel Γ nt a w g) (h : Nat) : Rel (up Γ (.row h) .none) nt a w (g.rl (rowP h)) := by
  have hp : rowP h .imm = false := rfl
  refine ⟨r.size, r.df, fun b hb => r.tags b fun e => hb (by simp [Gh.rl, e]), fun n => ?_⟩
  by_cases e : n = .row h
  · subst e; rw [up_same]; trivial
  · rw [up_ne e]
    have hc := r.cr n
    cases n with
    | t i => cases hg : Γ (.t i) <;> rw [hg] at hc <;> first | trivial | exact rl_xr hp hc
    | row k =>
      cases hg : Γ (.row k) <;> rw [hg] at hc <;> first | trivial | skip
      obtain ⟨m, vs, h1, h2, h3, h4⟩ := hc
      refine ⟨m, vs, h1, h2, h3.imp (fun q => ⟨q.1, fun b hb => ?_⟩) id, h4.mono fun _ _ => rl_svr hp⟩
      have hne : k ≠ h := fun hk => e (by rw [hk])
      simp [Gh.rl, q.2 b hb, rowP, hne]
    | box k =>
      cases hg : Γ (.box k) <;> rw [hg] at hc <;> first | trivial | skip
      obtain ⟨cur, h1, h2, h3⟩ := hc
      exact ⟨cur, h1, by simp [Gh.rl, h2, rowP], h3.mono fun _ _ => rl_tvr hp⟩
theorem sh_xr {w' : World} {g' ga : Gh} {B : Nat} (hi : ∀ b, g'.o b = .imm → ga.o b = .imm) (hh : ∀ k, k < 100 → ga.hd (B + k) = g'.hd k) {u : Value} {x : X} (hk : x.all TV.res = true) (hsz : x.all (TV.small 90) = true) (r : XR w' g' u x) : XR w' ga u (x.sh B) := by
  have k1 : ∀ {u : Value} {x : TV}, x.res = true → x.small 90 = true → TVR w' g' u x → TVR w' ga u (x.sh B) := fun {u x} h1 h2 r => by
    cases x with
    | v y => exact SVR.mono (fun b hb => ⟨hi b hb, rfl⟩) r
    | sr k =>
      simp [TV.small] at h2
      have r' : u = g'.hd k := r
      show u = ga.hd (B + k)
      rw [hh k (by omega)]; exact r'
    | _ => simp [TV.res] at h1
  have k2 : ∀ {u : Value} {x : PX}, x.all TV.res = true → x.all (TV.small 90) = true → PXR w' g' u x → PXR w' ga u (x.sh B) := fun {u x} h1 h2 r => by
    cases x with
    | one y => exact k1 (by simpa [PX.all] using h1) (by simpa [PX.all] using h2) r
    | agg xs =>
      obtain ⟨cs, hv, hall⟩ := r
      refine ⟨cs, hv, by simp [hall.1], fun j u y q1 q2 => ?_⟩
      simp only [List.getElem?_map] at q2
      cases hx : xs[j]? with
      | none => simp [hx] at q2
      | some z =>
        simp [hx] at q2
        subst q2
        have hmem := List.mem_of_getElem? hx
        exact k1 (List.all_eq_true.1 h1 z hmem) (List.all_eq_true.1 h2 z hmem) (hall.2 j u z q1 hx)
  cases x with
  | p y => exact k2 hk hsz r
  | tup xs =>
    obtain ⟨cs, hv, hall⟩ := r
    refine ⟨cs, hv, by simp [hall.1], fun j u y q1 q2 => ?_⟩
    simp only [List.getElem?_map] at q2
    cases hx : xs[j]? with
    | none => simp [hx] at q2
    | some z =>
      simp [hx] at q2
      subst q2
      have hmem := List.mem_of_getElem? hx
      exact k2 (List.all_eq_true.1 hk z hmem) (List.all_eq_true.1 hsz z hmem) (hall.2 j u z q1 hx)
theorem callM_core {Δ : Nm → C} {nt i : Nat} {a : Act} {w w' : World} {g g' : Gh} {p : Tag → Bool} {u : Value} {rows : Rows} {res : X} {v : Value} (h1 : p .imm = false) (h2 : p .other = false) (h3 : ∀ k, p (.box k) = false) (r : Rel Δ nt a w (g.rl p)) (ht : ∀ b, g.o b ≠ .other → b < w.heap.size) (hu : ∀ k, isTh i k → Unm Δ k)
    (hf : Fr w w' (g.mc p u).o g'.o) (hl : ∀ b, g'.o b ≠ .other → b < w'.heap.size) (hk : res.all TV.res = true) (hsz : res.all (TV.small 90) = true) (hrl : rows.length ≤ 90)
    (hx : XR w' g' v res) (hrows : ∀ k ty e xs, rows[k]? = some (ty, e, xs) → RowR w' g' k ty e xs) :
    Rel (ups Δ (rowsW (th i 0) 0 rows)) nt a w' ((g.rl p).ma (th i 0) g') ∧ Fr w w' g.o ((g.rl p).ma (th i 0) g').o ∧ XR w' ((g.rl p).ma (th i 0) g') v (res.sh (th i 0)) := by
  have hnotth : ∀ k, ¬ Unm Δ k → ¬ (th i 0 ≤ k ∧ k < th i 0 + 100) := fun k hk hc => hk (hu k (by unfold isTh; unfold th at hc; omega))
  have hrl' : ∀ b, (g.rl p).o b ≠ .other → p (g.o b) = false ∧ (g.rl p).o b = g.o b := fun b hb => by
    simp only [Gh.rl] at hb ⊢
    split at hb
    · exact absurd rfl hb
    · rename_i hq
      exact ⟨by simpa using hq, by rw [if_neg hq]⟩
  have hold : ∀ b, (g.rl p).o b ≠ .other → w'.heap[b]? = w.heap[b]? ∧ g'.o b = (g.mc p u).o b ∧ ((g.mc p u).o b = .imm → g.o b = .imm) ∧ ((g.mc p u).o b = .imm ∨ (g.mc p u).o b = .other) := fun b hb => by
    obtain ⟨q1, q2⟩ := hrl' b hb
    have hb' : b < w.heap.size := r.tags b hb
    have hm : (g.mc p u).o b = if g.o b = .imm then .imm else .other := by simp [Gh.mc, q1]
    have hcase : (g.mc p u).o b = .imm ∨ (g.mc p u).o b = .other := by rw [hm]; split <;> simp
    have := hf.keep b hb' (hcase.symm)
    have himm : (g.mc p u).o b = .imm → g.o b = .imm := fun hi => by
      rw [hm] at hi
      split at hi
      · assumption
      · cases hi
    exact ⟨this.1, this.2, himm, hcase⟩
  have hma : ∀ b, (g.rl p).o b ≠ .other → ((g.rl p).ma (th i 0) g').o b = (g.rl p).o b := fun b hb => by simp [Gh.ma, hb]
  have hmo : ∀ b, (g.rl p).o b = .other → ((g.rl p).ma (th i 0) g').o b = match g'.o b with | .row k => .row (th i 0 + k) | .imm => .imm | _ => .other := fun b hb => by simp [Gh.ma, hb]
  have hi : ∀ b, g'.o b = .imm → ((g.rl p).ma (th i 0) g').o b = .imm := fun b hb => by
    by_cases ho : (g.rl p).o b = .other
    · rw [hmo b ho, hb]
    · obtain ⟨_, q2, q3, _⟩ := hold b ho
      rw [hma b ho, (hrl' b ho).2]
      exact q3 (by rw [← q2]; exact hb)
  have hh : ∀ k, k < 100 → ((g.rl p).ma (th i 0) g').hd (th i 0 + k) = g'.hd k := fun k hk => by simp only [Gh.ma]; rw [if_pos (by omega)]; congr 1; omega
  have ext : Ext w w' (g.rl p) ((g.rl p).ma (th i 0) g') none fun k => ¬ Unm Δ k :=
    ⟨hf.size, fun b hb _ => ⟨(hold b hb).1, hma b hb⟩,
      fun b hb => by
        by_cases ho : (g.rl p).o b = .other
        · refine hl b fun e => hb ?_
          rw [hmo b ho, e]
        · exact Nat.lt_of_lt_of_le (r.tags b ho) hf.size,
      fun k hk => by simp only [Gh.ma]; rw [if_neg (hnotth k hk)], fun k _ => rfl⟩
  refine ⟨rel_rowsW (r.ext ext) fun j ty e xs hj => ?_, ⟨hf.os, hf.tape, hf.output, hf.size, fun b hb ho => ?_, fun b hb ⟨k, hk⟩ => ?_⟩, sh_xr hi hh hk hsz hx⟩
  · obtain ⟨n, vs, he, hn, ho', hall⟩ := hrows j ty e xs hj
    have hjl : j < rows.length := (List.getElem?_eq_some_iff.1 hj).1
    have hhd : ((g.rl p).ma (th i 0) g').hd (th i 0 + (0 + j)) = g'.hd j := by rw [Nat.zero_add]; exact hh j (by omega)
    refine ⟨n, vs, he, hn, ?_, hall.mono fun u x q => q.mono fun b hb => ⟨hi b hb, rfl⟩⟩
    unfold OwnR
    rw [hhd]
    rcases ho' with ⟨ho, htag⟩ | hz
    case inr => exact .inr hz
    refine .inl ⟨ho, fun b hb => ?_⟩
    have ht' := htag b hb
    have hnl : (g.rl p).o b = .other := Decidable.byContradiction fun hne => by
      obtain ⟨_, q2, _, q4⟩ := hold b hne
      rw [ht'] at q2
      rcases q4 with q | q <;> rw [q] at q2 <;> cases q2
    rw [hmo b hnl, ht', Nat.zero_add]
  · have hg : (g.rl p).o b = g.o b := by rcases ho with ho | ho <;> simp [Gh.rl, ho, h1, h2]
    rcases ho with ho | ho
    · have hm : (g.mc p u).o b = .other := by simp [Gh.mc, ho, h2]
      have := hf.keep b hb (.inl hm)
      refine ⟨this.1, ?_⟩
      rw [hmo b (by rw [hg, ho]), this.2, hm, ho]
    · have hne : (g.rl p).o b ≠ .other := by rw [hg, ho]; simp
      exact ⟨(hold b hne).1, by rw [hma b hne, hg]⟩
  · have hg : (g.rl p).o b = .box k := by simp [Gh.rl, hk, h3]
    have hne : (g.rl p).o b ≠ .other := by rw [hg]; simp
    exact ⟨by rw [hma b hne, hg]; rfl, Shp.of_eq (hold b hne).1⟩
def moveK (O : Orc) (i : Nat) (o : Oper) (rd : List Nm) (f : Nat) (row : Nat × Nat × List SV) (zs : List X) (W : List (Nm × C)) (K : List Nm → List (Nm × C) → Prop) : Prop :=
  O.m f row zs fun res rows => res.all (TV.small 90) = true ∧ rows.length ≤ 90 ∧ K rd (putT o.dst (res.sh (th i 0)) ++ (rowsW (th i 0) 0 rows ++ W))
def vCallM (T : Tab) (O : Orc) (Γ : Nm → C) (i : Nat) (o : Oper) (rd0 : List Nm) (f : Nat) (ts : List Nat) (xs : List Operand) (K : List Nm → List (Nm × C) → Prop) : Prop :=
  match xs with
  | x :: r => match nlAs T (ts.headD 0) (opX Γ x), argsV T Γ (ts.drop 1) r with
    | .p (.one (.sr h)), some (zs, hs) => match Γ (.row h) with
      | .row ty e ys => h ∉ hs ∧ moveK O i o (rd0 ++ (opR x ++ r.flatMap opR ++ .row h :: hs.map .row)) f (ty, e, ys) zs ((.row h, .none) :: frzW hs) K
      | _ => False
    | .p (.one (.nl ty e)), some (zs, hs) => 0 < e ∧ moveK O i o (rd0 ++ (opR x ++ r.flatMap opR ++ hs.map .row)) f (ty, e, []) zs (frzW hs) K
    | _, _ => False
  | [] => False
theorem callM_run {P : Program} {f : Nat} {row : Nat × Nat × List SV} {args : List X} {res : X} {rows : Rows} {o : Oper} {c : Call} {cx : Operand} (hcall : CallM P f row args res rows) (ho : o.op = .call c) (hc : c.callee = .value cx) (a : Act) (w : World) (hcx : a.eval cx = .func (.func f) #[] #[]) :
    (execOp a.eval o).run P w = .ok (.enter f (c.args.map a.eval)) w := by
  have := hcall.callable (c.args.map a.eval) w
  have e1 : execOp a.eval o = (do let d ← resolve a.eval c o.type; invoke d.target d.args) := by simp only [execOp, ho]
  have e2 : (resolve a.eval c o.type).run P w = .ok { target := .fn (.func f) #[], args := c.args.map a.eval } w := by
    unfold resolve
    rw [hc]
    simp only [hcx]
    show (Deferred.ofValue (.func (.func f) #[] #[]) (c.args.map a.eval)).run P w = _
    simp [Deferred.ofValue]
  rw [e1, run_bind_ok e2]
  unfold invoke
  simpa using this
theorem mc_sval {w : World} {g : Gh} {p : Tag → Bool} {u0 : Value} (hp : p .imm = false) {u : Value} {x : X} (hs : SVal x) (h : XR w g u x) : XR w (g.mc p u0) u x := by
  cases x with
  | tup xs => exact hs.elim
  | p q => cases q with
    | one y => cases y <;> first | exact mc_svr hp h | exact absurd hs (by simp [SVal])
    | agg xs =>
      obtain ⟨cs, hv, hall⟩ := h
      refine ⟨cs, hv, hall.mono' fun u y hy hr => ?_⟩
      obtain ⟨z, rfl⟩ := hs y hy
      exact mc_svr hp hr
theorem moveK_ok {P : Program} {O : Orc} {T : Tab} {Γ : Nm → C} {nt i : Nat} {o : Oper} {c : Call} {cx x : Operand} {r : List Operand} {f : Nat} {row : Nat × Nat × List SV} {zs : List X} {hs : List Nat} {W : List (Nm × C)} {rd : List Nm} {K : List Nm → List (Nm × C) → Prop} {p : Tag → Bool}
    (hO : OrcOk P O) (hd : dOk nt o) (ho : o.op = .call c) (hc : c.callee = .value cx) (hxs : c.args.toList = x :: r) (h1 : p .imm = false) (h2 : p .other = false) (h3 : ∀ k, p (.box k) = false) (hargs : argsV T Γ (c.argTypes.toList.drop 1) r = some (zs, hs))
    (hrd : ∀ n ∈ r.flatMap opR, n ∈ rd) (hrd2 : ∀ k ∈ hs, Nm.row k ∈ rd)
    (hcal : ∀ (Δ : Nm → C) (a : Act) w g, (∀ n ∈ rd, Δ n = Γ n) → Rel Δ nt a w g → a.eval cx = .func (.func f) #[] #[])
    (hrel : ∀ (Δ : Nm → C) (a : Act) w g, (∀ n ∈ rd, Δ n = Γ n) → Rel Δ nt a w g → Rel (ups Δ W) nt a w ((g.frz hs).rl p) ∧ RowR w ((g.frz hs).mc p (a.eval x)) 0 row.1 row.2.1 row.2.2)
    (hW : ∀ (Δ : Nm → C) k, Unm Δ k → Unm (ups Δ W) k)
    (h : moveK O i o rd f row zs W K) : Good P nt i o Γ K := by
  unfold moveK at h
  obtain ⟨res, rows, hcall, hsz, hrl, h⟩ := hO.m _ _ _ _ h
  refine ⟨_, _, ?_, h⟩
  intro Δ a w g Q K' hr hu r0 hk
  have hcx := hcal Δ a w g hr r0
  obtain ⟨r1, hrow⟩ := hrel Δ a w g hr r0
  have harg := argsV_rel (hs := hs) r0 hargs (fun n hn => hr n (hrd n hn)) (fun k hk => hr _ (hrd2 k hk)) (fun k hk => hk)
  have hsv := argsV_sval hargs
  have hall : All2 (XR w ((g.frz hs).mc p (a.eval x))) (c.args.toList.map a.eval) (.p (.one (.sr 0)) :: zs) := by
    rw [hxs]
    exact .cons rfl (harg.mono' fun u y hy => mc_sval h1 (hsv y hy))
  have hlt : ∀ b, (g.frz hs).o b ≠ .other → b < w.heap.size := fun b hb => r0.tags b fun e => hb (frz_other.2 e)
  have hcl := hcall.calls w (c.args.toList.map a.eval) ((g.frz hs).mc p (a.eval x)) (fun b => by
    simp only [Gh.mc]
    by_cases q1 : p ((g.frz hs).o b) = true
    · rw [if_pos q1]; exact .inr (.inr rfl)
    · rw [if_neg q1]
      by_cases q2 : (g.frz hs).o b = .imm
      · rw [if_pos q2]; exact .inr (.inl rfl)
      · rw [if_neg q2]; exact .inl rfl) (fun b hb => by
    refine hlt b fun e => hb ?_
    simp only [Gh.mc, e, h2]
    simp) hall hrow
  unfold Oper.wp
  rw [callM_run hcall ho hc a w hcx]
  show Calls P f (c.args.map a.eval) w _
  have e : (c.args.toList.map a.eval).toArray = c.args.map a.eval := by rw [← Array.toList_map]
  rw [e] at hcl
  refine hcl.mono fun en w' hh => ?_
  obtain ⟨v, g', rfl, q1, q2, q3, q4⟩ := hh
  obtain ⟨r2, f2, x2⟩ := callM_core (i := i) h1 h2 h3 r1 hlt (fun k hk => hW Δ k (hu k hk)) q1 q2 hcall.resok hsz hrl q3 q4
  rw [← ups_append] at r2
  exact hk _ _ _ (rel_putT' (Γ := Δ) hd r2 x2) ((Fr.frz w g hs).trans f2)
theorem vCallM_ok {P T O Γ nt i o c f K cx rd0} (hO : OrcOk P O) (hd : dOk nt o) (ho : o.op = .call c) (hc : c.callee = .value cx) (hcal : ∀ (Δ : Nm → C) (a : Act) w g, (∀ n ∈ rd0, Δ n = Γ n) → Rel Δ nt a w g → a.eval cx = .func (.func f) #[] #[])
    (h : vCallM T O Γ i o rd0 f c.argTypes.toList c.args.toList K) : Good P nt i o Γ K := by
  unfold vCallM at h
  split at h
  · rename_i x r hxs
    split at h
    · rename_i hh zs hs hx hargs
      split at h
      · rename_i ty e ys hrow
        obtain ⟨hnot, h⟩ := h
        refine moveK_ok (p := rowP hh) hO hd ho hc hxs rfl rfl (fun _ => rfl) hargs (fun n hn => by simp only [List.mem_append]; exact .inr (.inl (.inr hn))) (fun k hk => by simp [hk]) (fun Δ a w g hr r => hcal Δ a w g (fun n hn => hr n (by simp [hn])) r) (fun Δ a w g hr r => ?_) (fun Δ k u => ?_) h
        · have hx1 := opX_rel r x
          rw [opX_congr (Γ := Γ) fun n hn => hr n (by simp [hn])] at hx1
          have hx2 := nlAs_rel (T := T) (t := c.argTypes.toList.headD 0) hx1
          rw [hx] at hx2
          have hv : a.eval x = g.hd hh := hx2
          refine ⟨(r.frz hs).rlr hh, ?_⟩
          obtain ⟨n, vs, he, hn, ho', hall⟩ := r.row (h := hh) (by rw [hr _ (by simp), hrow])
          refine ⟨n, vs, he, hn, ?_, hall.mono fun u y q => mc_svr rfl (frz_svr q)⟩
          unfold OwnR
          show (w.ownsRow 0 ty e (a.eval x) n vs ∧ _) ∨ _
          rw [hv]
          rcases ho' with ⟨q1, q2⟩ | q
          · refine .inl ⟨q1, fun b hb => ?_⟩
            have := q2 b hb
            simp [Gh.mc, Gh.frz, this, hnot, rowP]
          · exact .inr q
        · have := u.frzW (hs := hs)
          intro n
          by_cases e1 : n = .row hh
          · subst e1; simp only [ups]; rw [up_same]; exact ⟨by simp [C.ment], fun _ => rfl⟩
          · simp only [ups]; rw [up_ne e1]; exact this n
      · exact h.elim
    · rename_i ty e zs hs hx hargs
      obtain ⟨he, h⟩ := h
      refine moveK_ok (p := fun _ => false) hO hd ho hc hxs rfl rfl (fun _ => rfl) hargs (fun n hn => by simp only [List.mem_append]; exact .inr (.inl (.inr hn))) (fun k hk => by simp [hk]) (fun Δ a w g hr r => hcal Δ a w g (fun n hn => hr n (by simp [hn])) r) (fun Δ a w g hr r => ?_) (fun Δ k u => u.frzW) h
      have hx1 := opX_rel r x
      rw [opX_congr (Γ := Γ) fun n hn => hr n (by simp [hn])] at hx1
      have hx2 := nlAs_rel (T := T) (t := c.argTypes.toList.headD 0) hx1
      rw [hx] at hx2
      have hv : a.eval x = .slice none 0 0 := hx2
      have e1 : (g.frz hs).rl (fun _ => false) = g.frz hs := by
        show Gh.mk _ _ _ = _
        simp
      refine ⟨by rw [e1]; exact r.frz hs, 0, [], he, by simp, .inl ⟨?_, fun b hb => ?_⟩, .nil⟩
      · show w.ownsRow 0 ty e (a.eval x) 0 []
        rw [hv]; exact World.ownsRow_nil w 0 ty e
      · have hb' : (a.eval x).ownBlock = some b := hb
        rw [hv] at hb'; simp [Value.ownBlock] at hb'
    · exact h.elim
  · exact h.elim
end Go.Proofs.YtdpflafjfkooeaaG
