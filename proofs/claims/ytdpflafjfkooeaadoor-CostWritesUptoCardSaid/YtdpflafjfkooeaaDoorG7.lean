/- G7: build, make, append, cuts of own rows. -/
import Derived.Test.YtdpflafjfkooeaaDoorG6
namespace Go.Proofs.YtdpflafjfkooeaaDoorG
open Go Go.RowKit
set_option linter.unusedVariables false
set_option linter.unusedSimpArgs false

/-! ### struct and array values -/
/-- The parts' cells. -/
def partsT (T : Tab) (Γ : Nm → C) (ty : Nat → Nat) (parts : List (Nat × Operand)) : List (Nat × List TV) := parts.map fun p => (p.1, cellsOf (nlAs T (ty p.1) (opX Γ p.2)))
def partsR (parts : List (Nat × Operand)) : List Nm := parts.flatMap fun p => opR p.2
theorem partsT_rel {T Γ Δ nt a w g ty} {parts : List (Nat × Operand)} (r : Rel Δ nt a w g) (hr : ∀ n ∈ partsR parts, Δ n = Γ n) (hr2 : ∀ n ∈ (partsT T Γ ty parts).flatMap fun p => p.2.flatMap tvNm, Δ n = Γ n)
    (hk : (partsT T Γ ty parts).all (fun p => p.2.all (cellOk Γ)) = true) :
    All2 (fun (p : Nat × Value) (q : Nat × List TV) => p.1 = q.1 ∧ All2 (TVR w g) p.2.cells.toList q.2) (parts.map fun p => (p.1, a.eval p.2)) (partsT T Γ ty parts) := by
  induction parts with
  | nil => exact .nil
  | cons p ps ih =>
    simp only [partsT, List.map_cons, List.all_cons, Bool.and_eq_true, List.flatMap_cons] at hk hr2 ⊢
    have hx := opX_rel r p.2
    rw [opX_congr (Γ := Γ) fun n hn => hr n (by simp [partsR, hn])] at hx
    refine .cons ⟨rfl, (cellsOf_rel (Γ := Γ) r (fun n hn => hr2 n (List.mem_append_left _ hn)) hk.1 (nlAs_rel hx)).1⟩ (ih (fun n hn => hr n ?_) (fun n hn => hr2 n (List.mem_append_right _ hn)) hk.2)
    simp only [partsR, List.flatMap_cons, List.mem_append]
    exact .inr hn
def placesT (T : Tab) : List (Nat × Nat) → Option (List (Nat × Nat))
  | [] => some []
  | (ft, off) :: r => match T ft, placesT T r with
    | some i, some l => some ((off, i.size) :: l)
    | _, _ => none
theorem placesT_ok {P T} (hT : Tok P T) : ∀ {fs : List Go.Field} {l}, placesT T (fs.map fun f => (f.type, f.offset)) = some l → fs.mapM (fun f => (P.info? f.type).map fun i => (f.offset, i.size)) = some l
  | [], l, h => by simp [placesT] at h; subst h; rfl
  | f :: fs, l, h => by
    simp only [List.map_cons, placesT] at h
    split at h
    · rename_i i l' hi hl
      cases h
      obtain ⟨j, z, hj, hs, _⟩ := (hT _ _ hi).info'
      simp [List.mapM_cons, hj, placesT_ok hT hl, hs]
    · cases h
def fty (fs : List (Nat × Nat)) (i : Nat) : Nat := (fs.getD i (0, 0)).1
def vBuild (T : Tab) (Γ : Nm → C) (o : Oper) (t : Nat) (parts : List (Nat × Operand)) (K : List Nm → List (Nm × C) → Prop) : Prop :=
  match T t with
  | some ⟨.struct fs, _, _, ze⟩ => match placesT T fs with
    | some l => (partsT T Γ (fty fs) parts).all (fun p => p.2.all (cellOk Γ)) = true ∧ match fillG (fun i => l[i]?) (ze.map zTV) (partsT T Γ (fty fs) parts) with
      | some xs => K (partsR parts ++ (partsT T Γ (fty fs) parts).flatMap fun p => p.2.flatMap tvNm) (putT o.dst (.p (.agg xs)))
      | none => False
    | none => False
  | some ⟨.arr _ e, _, _, ze⟩ => match T e with
    | some ei => (partsT T Γ (fun _ => e) parts).all (fun p => p.2.all (cellOk Γ)) = true ∧ match fillG (fun i => some (i * ei.size, ei.size)) (ze.map zTV) (partsT T Γ (fun _ => e) parts) with
      | some xs => K (partsR parts ++ (partsT T Γ (fun _ => e) parts).flatMap fun p => p.2.flatMap tvNm) (putT o.dst (.p (.agg xs)))
      | none => False
    | none => False
  | _ => False
theorem zero_rel {w g} {z : Value} {zs : List ZC} (h : z.cells.toList = zs.map ZC.val) (hk : zs.all ZC.ok = true) : All2 (TVR w g) z.cells.toList (zs.map zTV) := by
  rw [h]; exact all2_map fun c hc => zTV_rel (List.all_eq_true.1 hk c hc)
theorem vBuild_ok {P T Γ nt i o t K} {parts : Array (Nat × Operand)} (hT : Tok P T) (hd : dOk nt o) (ho : o.op = .build t parts) (h : vBuild T Γ o t parts.toList K) : Good P nt i o Γ K := by
  have hparts : ∀ a : Act, (parts.map fun (i, x) => (i, a.eval x)).toList = parts.toList.map fun p => (p.1, a.eval p.2) := fun a => by simp
  unfold vBuild at h
  split at h
  · rename_i fs sz by' ze ht
    split at h
    · rename_i l hl
      obtain ⟨hok, h⟩ := h
      split at h
      · rename_i xs hf
        refine ⟨_, _, actOk_val hd (fun Δ a w g hr r => ?_), h⟩
        have hti := hT t _ ht
        obtain ⟨d, hu, he⟩ := hti.und'
        obtain ⟨j, z, hj, hs, hb, hz, hc⟩ := hti.info'
        cases d <;> simp [dK] at he
        rename_i fl
        obtain ⟨cells, hcells, hall⟩ := fill_rel (fun i => l[i]?) _ _ z.cells _ xs (zero_rel (w := w) (g := g) hc hti.zok) (partsT_rel (T := T) (ty := fty fs) (parts := parts.toList) r (fun n hn => hr n (by simp [hn])) (fun n hn => hr n (List.mem_append_right _ hn)) hok) hf
        refine ⟨.agg cells, ?_, ⟨cells, rfl, hall⟩⟩
        simp only [execOp, ho]
        refine run_v (run_build w t _ cells ?_)
        rw [hparts a]
        unfold Program.built
        have hp := placesT_ok (fs := fl.toList) hT (by rw [he]; exact hl)
        simp only [hj, hu, hz, hp]
        simpa using hcells
      · exact h.elim
    · exact h.elim
  · rename_i n e sz by' ze ht
    split at h
    · rename_i ei hei
      obtain ⟨hok, h⟩ := h
      split at h
      · rename_i xs hf
        refine ⟨_, _, actOk_val hd (fun Δ a w g hr r => ?_), h⟩
        have hti := hT t _ ht
        have hu := hti.arr rfl
        obtain ⟨j, z, hj, hs, hb, hz, hc⟩ := hti.info'
        obtain ⟨j', z', hj', hs', _⟩ := (hT e ei hei).info'
        obtain ⟨cells, hcells, hall⟩ := fill_rel (fun i => some (i * ei.size, ei.size)) _ _ z.cells _ xs (zero_rel (w := w) (g := g) hc hti.zok) (partsT_rel (T := T) (ty := fun _ => e) (parts := parts.toList) r (fun n hn => hr n (by simp [hn])) (fun n hn => hr n (List.mem_append_right _ hn)) hok) hf
        refine ⟨.agg cells, ?_, ⟨cells, rfl, hall⟩⟩
        simp only [execOp, ho]
        refine run_v (run_build w t _ cells ?_)
        rw [hparts a]
        unfold Program.built
        simp only [hj, hu, hz, hj', hs']
        exact hcells
      · exact h.elim
    · exact h.elim
  · exact h.elim

/-! ### a slice that is written out -/
def zSV : ZC → SV
  | .raw v => .raw v
  | .nil _ e => .sl e []
theorem zSV_rel {w o z} (h : z.ok = true) : SVR w o z.val (zSV z) := by
  cases z with
  | raw v => exact .raw v h
  | nil ty e => exact .nil _ _ _ fun _ => rfl
def zeros (n : Nat) (zs : List ZC) : List SV := (List.range n).map fun j => (zs.map zSV).getD (j % zs.length) (.raw (.bool false))
/-- The parts' cells as values that do not change. -/
def partsF (Γ : Nm → C) : List (Nat × List TV) → Option (List (Nat × List SV) × List Nat)
  | [] => some ([], [])
  | (i, xs) :: r => match frzL Γ xs, partsF Γ r with
    | some (s, h1), some (ss, h2) => some ((i, s) :: ss, h1 ++ h2)
    | _, _ => none
theorem partsF_rel {Γ Δ nt a w g} (r : Rel Δ nt a w g) {hs} : ∀ {parts : List (Nat × Value)} {ps ss hs0}, partsF Γ ps = some (ss, hs0) → (∀ k ∈ hs0, Δ (.row k) = Γ (.row k)) → (∀ k ∈ hs0, k ∈ hs) →
    All2 (fun (p : Nat × Value) (q : Nat × List TV) => p.1 = q.1 ∧ All2 (TVR w g) p.2.cells.toList q.2) parts ps → All2 (fun (p : Nat × Value) (q : Nat × List SV) => p.1 = q.1 ∧ All2 (SVR w (g.frz hs).o) p.2.cells.toList q.2) parts ss := by
  intro parts ps
  induction ps generalizing parts with
  | nil =>
    intro ss hs0 h hr hsub ha
    simp [partsF] at h
    obtain ⟨rfl, rfl⟩ := h
    cases parts with
    | nil => exact .nil
    | cons u us => have := ha.1; simp at this
  | cons x xs ih =>
    intro ss hs0 h hr hsub ha
    cases parts with
    | nil => have := ha.1; simp at this
    | cons u us =>
      obtain ⟨xi, xl⟩ := x
      simp only [partsF] at h
      split at h
      · rename_i s h1 ss' h2 e1 e2
        cases h
        exact .cons ⟨ha.head.1, frzL_rel r e1 (fun k hk => hr k (by simp [hk])) (fun k hk => hsub k (by simp [hk])) ha.head.2⟩ (ih e2 (fun k hk => hr k (by simp [hk])) (fun k hk => hsub k (by simp [hk])) ha.tail)
      · cases h
def vBuildSlice (T : Tab) (Γ : Nm → C) (i : Nat) (o : Oper) (t len : Nat) (parts : List (Nat × Operand)) (K : List Nm → List (Nm × C) → Prop) : Prop :=
  match T t with
  | some ⟨.slice el, _, _, _⟩ => match T el with
    | some ei => (partsT T Γ (fun _ => el) parts).all (fun p => p.2.all (cellOk Γ)) = true ∧ 0 < ei.size ∧ ei.zero.length = ei.size ∧ len * ei.size ≤ 16777216 ∧ match partsF Γ (partsT T Γ (fun _ => el) parts) with
      | some (ps, hs) => match fillG (fun i => some (i * ei.size, ei.size)) (zeros (len * ei.size) ei.zero) ps with
        | some xs => xs.length = len * ei.size ∧ K (partsR parts ++ ((partsT T Γ (fun _ => el) parts).flatMap fun p => p.2.flatMap tvNm) ++ hs.map .row) (putT o.dst (.p (.one (.sr (th i 0)))) ++ ((.row (th i 0), .row el ei.size xs) :: frzW hs))
        | none => False
      | none => False
    | none => False
  | _ => False
theorem Unm.frzW {Γ : Nm → C} {k hs} (h : Unm Γ k) : Unm (ups Γ (frzW hs)) k := fun n => by
  rw [ups_frzW]
  split
  · exact ⟨by simp [C.ment], fun _ => rfl⟩
  · exact h n
theorem run_buildSlice {P : Program} {t el len : Nat} {ei : TI} {parts : Array (Nat × Value)} {cells : Array Value} (hu : P.underlying t = some (.slice el)) (hi : TIok P el ei) (h0 : 0 < ei.size) (hl : len * ei.size ≤ 16777216) {w : World} {z : Value}
    (hz : ∀ w, (zeroValue el).run P w = .ok z w) (hf : Instr.fill (fun i => some (i * ei.size, ei.size)) ((Array.range (len * ei.size)).map (z.cells[· % z.cells.size]!)) parts.toList = some cells) :
    (Instr.buildSlice t len parts).run P w = .ok (.slice (some ⟨w.heap.size, 0, none⟩) len len) (w.alloc (.cells cells el)) := by
  unfold Instr.buildSlice
  rw [run_bind_ok (run_underlying hu w)]
  simp only []
  rw [run_bind_ok (hi.run_size w)]
  rw [if_neg (by omega)]
  by_cases hn : len * ei.size = 0
  · have hlen : len = 0 := by rcases Nat.mul_eq_zero.1 hn with h | h <;> omega
    subst hlen
    simp only [Nat.zero_mul] at hf ⊢
    simp only [if_true]
    rw [run_bind_ok (a := (#[] : Array Value)) (w' := w) rfl]
    have e : ((Array.range 0).map fun x => (#[] : Array Value)[x % (#[] : Array Value).size]!) = (Array.range 0).map (z.cells[· % z.cells.size]!) := by simp
    rw [e, hf]
    rfl
  · rw [if_neg hn]
    rw [run_bind_ok (hz w)]
    rw [run_bind_ok (a := z.cells) (w' := w) rfl]
    rw [hf]
    rfl
theorem made_zeros {P el ei} (hi : TIok P el ei) {w : World} {o : Nat → Tag} {z : Value} (hc : z.cells.toList = ei.zero.map ZC.val) (h0 : 0 < ei.size) (hl : ei.zero.length = ei.size) (n : Nat) :
    All2 (SVR w o) ((Array.range n).map (z.cells[· % z.cells.size]!)).toList (zeros n ei.zero) := by
  have hzs : z.cells.size = ei.zero.length := by have := congrArg List.length hc; simpa using this
  refine ⟨by simp [zeros], fun j u x h1 h2 => ?_⟩
  simp only [Array.toList_map, Array.toList_range, List.getElem?_map, zeros] at h1 h2
  by_cases hj : j < n
  · rw [List.getElem?_range hj] at h1 h2
    simp only [Option.map_some, Option.some.injEq] at h1 h2
    have hlt : j % ei.zero.length < ei.zero.length := Nat.mod_lt _ (by omega)
    have hz1 : z.cells[j % z.cells.size]! = (ei.zero[j % ei.zero.length]).val := by
      rw [hzs]
      have hlt' : j % ei.zero.length < z.cells.size := by omega
      rw [getElem!_pos z.cells _ hlt']
      have : z.cells.toList[j % ei.zero.length]? = some (ei.zero[j % ei.zero.length]).val := by rw [hc]; simp [hlt]
      simpa [hlt'] using this
    have hz2 : x = zSV (ei.zero[j % ei.zero.length]) := by rw [← h2]; simp [List.getD, hlt]
    rw [← h1, hz1, hz2]
    exact zSV_rel (List.all_eq_true.1 hi.zok _ (List.getElem_mem hlt))
  · rw [List.getElem?_eq_none (by simp; omega)] at h1; cases h1
theorem vBuildSlice_ok {P T Γ nt i o t len K} {parts : Array (Nat × Operand)} (hT : Tok P T) (hd : dOk nt o) (ho : o.op = .buildSlice t len parts) (h : vBuildSlice T Γ i o t len parts.toList K) : Good P nt i o Γ K := by
  have hparts : ∀ a : Act, (parts.map fun (i, x) => (i, a.eval x)).toList = parts.toList.map fun p => (p.1, a.eval p.2) := fun a => by simp
  unfold vBuildSlice at h
  split at h
  · rename_i el sz by' ze ht
    split at h
    · rename_i ei hei
      obtain ⟨hok, h0, hzl, hlim, h⟩ := h
      split at h
      · rename_i ps hs hps
        split at h
        · rename_i xs hf
          obtain ⟨hxl, h⟩ := h
          refine ⟨_, _, ?_, h⟩
          intro Δ a w g Q K' hr hu r hk
          have hti := hT el ei hei
          obtain ⟨z, _, hc⟩ := hti.run_zero w
          have hz : ∀ w, ∃ z', (zeroValue el).run P w = .ok z' w ∧ z'.cells.toList = ei.zero.map ZC.val := hti.run_zero
          obtain ⟨j, z2, hj, hs2, hb2, hz2, hc2⟩ := hti.info'
          have hzr : ∀ w, (zeroValue el).run P w = .ok z2 w := fun w => by simp [zeroValue, typeInfo, hj, hz2, go_sem]
          have r1 := r.frz hs
          have hrel := partsT_rel (T := T) (ty := fun _ => el) (parts := parts.toList) r (fun n hn => hr n (by simp only [List.mem_append]; exact .inl (.inl hn))) (fun n hn => hr n (by simp only [List.mem_append]; exact .inl (.inr hn))) hok
          have hrel2 := partsF_rel (hs := hs) r hps (fun k hk => hr _ (by simp [hk])) (fun k hk => hk) hrel
          obtain ⟨cells, hcells, hall⟩ := fill_rel (fun i => some (i * ei.size, ei.size)) _ _ _ _ xs (made_zeros hti (w := w) (o := (g.frz hs).o) hc2 h0 hzl (len * ei.size)) hrel2 hf
          have hrun : (execOp a.eval o).run P w = .ok (.value (.slice (some ⟨w.heap.size, 0, none⟩) len len)) (w.alloc (.cells cells el)) := by
            simp only [execOp, ho]
            refine run_v (run_buildSlice ((hT t _ ht).slice rfl) hti h0 hlim hzr ?_)
            rw [hparts a]
            exact hcells
          have hcs : cells.size = len * ei.size := by have := hall.1; simp at this; omega
          have hml : len ≤ maxLen := by
            have : len ≤ len * ei.size := Nat.le_mul_of_pos_right _ h0
            simp only [maxLen]
            omega
          have htk : cells.toList.take (len * ei.size) = cells.toList := List.take_of_length_le (by simp; omega)
          obtain ⟨r2, f2, x2⟩ := new_row r1 (h := th i 0) (hu (th i 0) (isTh_th (by omega))).frzW (v := .slice (some ⟨w.heap.size, 0, none⟩) len len) (ty := el) (e := ei.size) (n := len) (vs := cells.toList) (xs := xs) h0 hxl
            (World.grownBy_alloc w _ none) ⟨by simpa using hcs, .inr ⟨w.heap.size, len, cells, rfl, Nat.zero_le _, heap_alloc_new w _, Nat.le_refl _, hml, hcs, htk⟩⟩ (fun b hb => by simp [Value.ownBlock] at hb; omega) hall
          · exact wp_value hrun (hk _ _ _ (rel_putT' (Γ := Δ) hd (wr := (.row (th i 0), _) :: frzW hs) r2 x2) ((Fr.frz w g hs).trans f2))
        · exact h.elim
      · exact h.elim
    · exact h.elim
  · exact h.elim

end Go.Proofs.YtdpflafjfkooeaaDoorG
