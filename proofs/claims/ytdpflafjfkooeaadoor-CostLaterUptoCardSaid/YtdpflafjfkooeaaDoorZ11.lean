/- YtdpflafjfkooeaaDoorZ11: a part of the proof, joined of its texts. -/
import Derived.Test.YtdpflafjfkooeaaDoorZ10
/- H1: what came in, by value. -/
namespace Go.Proofs.YtdpflafjfkooeaaDoorG
open Go Go.RowKit Go.Proofs.YtdpflafjfkooeaaDoor
set_option linter.unusedVariables false
set_option linter.unusedSimpArgs false
/-- Cells that may be of a type; n bounds the lengths of slices and strings. -/
inductive Typ (T : Tab) (n : Nat) : Nat → List SV → Prop
  | int (t k s b z m) (h : T t = some ⟨.int k, s, b, z⟩) (hw : (Lit.int k m).wf = true) : Typ T n t [.raw (.int k m)]
  | bool (t s b z x) (h : T t = some ⟨.bool, s, b, z⟩) : Typ T n t [.raw (.bool x)]
  | str (t s b z) (x : ByteArray) (h : T t = some ⟨.str, s, b, z⟩) (hx : x.size ≤ n) : Typ T n t [.raw (.string x)]
  | sl (t e s b z ei) (xss : List (List SV)) (h : T t = some ⟨.slice e, s, b, z⟩) (hi : T e = some ei) (hl : xss.length ≤ n) (hx : ∀ xs ∈ xss, Typ T n e xs) (hs : ∀ xs ∈ xss, xs.length = ei.size) : Typ T n t [.sl ei.size xss.flatten]
  | struct (t fs s b z) (xss : List (List SV)) (h : T t = some ⟨.struct fs, s, b, z⟩) (hl : xss.length = fs.length) (hx : ∀ (i : Nat) f xs, fs[i]? = some f → xss[i]? = some xs → Typ T n f.1 xs) : Typ T n t xss.flatten
  | arr (t m e s b z) (xss : List (List SV)) (h : T t = some ⟨.arr m e, s, b, z⟩) (hl : xss.length = m) (hx : ∀ xs ∈ xss, Typ T n e xs) : Typ T n t xss.flatten
theorem Typ.mono {T n n' t xs} (hn : n ≤ n') (h : Typ T n t xs) : Typ T n' t xs := by
  induction h with
  | int t k s b z m h hw => exact .int t k s b z m h hw
  | bool t s b z x h => exact .bool t s b z x h
  | str t s b z x h hx => exact .str t s b z x h (Nat.le_trans hx hn)
  | sl t e s b z ei xss h hi hl hx hs ih => exact .sl t e s b z ei xss h hi (Nat.le_trans hl hn) ih hs
  | struct t fs s b z xss h hl hx ih => exact .struct t fs s b z xss h hl ih
  | arr t m e s b z xss h hl hx ih => exact .arr t m e s b z xss h hl ih
/-! ### which types are read -/
def layB (T : Tab) : Nat → List (Nat × Nat) → Option Nat
  | off, [] => some off
  | off, (ft, o) :: r => match T ft with
    | some i => if o = off then layB T (off + i.size) r else none
    | none => none
def szB (T : Tab) (e n s : Nat) : Bool := match T e with | some ei => decide (s = n * ei.size) | none => false
def posB (T : Tab) (e : Nat) : Bool := match T e with | some ei => decide (0 < ei.size) | none => false
def okT (T : Tab) : Nat → Nat → Bool
  | 0, _ => false
  | m + 1, t => match T t with
    | some ⟨.int _, _, _, _⟩ => true
    | some ⟨.bool, _, _, _⟩ => true
    | some ⟨.str, _, _, _⟩ => true
    | some ⟨.slice e, _, _, _⟩ => posB T e && okT T m e
    | some ⟨.struct fs, s, _, _⟩ => decide (layB T 0 fs = some s) && fs.all fun f => okT T m f.1
    | some ⟨.arr n e, s, _, _⟩ => szB T e n s && okT T m e
    | _ => false
/-! ### lists of rows of one length -/
theorem flat_get {α : Type} {e : Nat} (he : 0 < e) : ∀ {l : List (List α)}, (∀ x ∈ l, x.length = e) → ∀ j, l.flatten[j]? = (l[j / e]?).bind fun x => x[j % e]?
  | [], _, j => by simp
  | x :: l, h, j => by
    have hx := h x (by simp)
    rw [List.flatten_cons]
    by_cases hj : j < e
    · rw [List.getElem?_append_left (by omega), Nat.div_eq_of_lt hj, Nat.mod_eq_of_lt hj]; rfl
    · rw [List.getElem?_append_right (by omega), hx, flat_get he (fun y hy => h y (by simp [hy])) (j - e)]
      have e1 : j / e = (j - e) / e + 1 := by rw [Nat.div_eq_sub_div he (by omega)]
      have e2 : j % e = (j - e) % e := by rw [Nat.mod_eq_sub_mod (by omega)]
      rw [e1, e2]; rfl
theorem flat_len {α : Type} {e : Nat} : ∀ {l : List (List α)}, (∀ x ∈ l, x.length = e) → l.flatten.length = l.length * e
  | [], _ => by simp
  | x :: l, h => by rw [List.flatten_cons, List.length_append, h x (by simp), flat_len fun y hy => h y (by simp [hy]), List.length_cons, Nat.succ_mul]; omega
theorem all2_flat {α β : Type} {R : α → β → Prop} : ∀ {us : List (List α)} {xs : List (List β)}, All2 (All2 R) us xs → All2 R us.flatten xs.flatten
  | [], [], _ => .nil
  | [], x :: xs, h => by have := h.1; simp at this
  | u :: us, [], h => by have := h.1; simp at this
  | u :: us, x :: xs, h => by simp only [List.flatten_cons]; exact h.head.append (all2_flat h.tail)
theorem one_le {H : Type} (d : DataW H) : 1 ≤ Rows.uptoBulk d := by
  cases d with
  | lit l => cases l <;> simp [Rows.uptoBulk]
  | nil => simp [Rows.uptoBulk]
  | ptr d => simp [Rows.uptoBulk]
  | slice elems spare => simp [Rows.uptoBulk]
  | agg parts => simp [Rows.uptoBulk]
  | iface t d => simp [Rows.uptoBulk]
  | map entries => simp [Rows.uptoBulk]
  | held h => simp [Rows.uptoBulk]
theorem part_le {H : Type} {d : DataW H} {l : List (DataW H)} (h : d ∈ l) : Rows.uptoBulk d ≤ Rows.uptoBulkAll l := by
  induction l with
  | nil => cases h
  | cons x r ih =>
    simp only [Rows.uptoBulkAll]
    cases List.mem_cons.1 h with
    | inl e => subst e; omega
    | inr e => have := ih e; omega
theorem length_le {H : Type} (l : List (DataW H)) : l.length ≤ Rows.uptoBulkAll l := by
  induction l with
  | nil => simp [Rows.uptoBulkAll]
  | cons x r ih => have := one_le x; simp only [Rows.uptoBulkAll, List.length_cons]; omega
section
variable {H : Type} {enc : TypeId × Value → H} {P : Program} {T : Tab} (hT : Tok P T) {W : World} {base : Nat} {sp : Nat → Bool} {held : Bool}
/-- All that lies does not change. -/
def oI (W : World) (b : Nat) : Tag := if b < W.heap.size then .imm else .other
theorem cellsOf_T {P : Program} {t i} (h : TIok P t i) : P.cellsOf t = i.size := by
  obtain ⟨j, z, h1, h2, _⟩ := h.info'
  simp [Program.cellsOf, h1, h2]
theorem cells_at {W : World} {base : Nat} {a : Addr} {n : Nat} {cs : List Value} (h : W.cells? base a n = some cs) : cs.length = n ∧ ∀ j u, cs[j]? = some u → W.cell? (a.add j) = some u := by
  unfold World.cells? at h
  split at h
  · have key : ∀ (l : List Nat) (cs : List Value), l.mapM (fun i => W.cell? (a.add i)) = some cs → cs.length = l.length ∧ ∀ (j : Nat) i u, l[j]? = some i → cs[j]? = some u → W.cell? (a.add i) = some u := by
      intro l
      induction l with
      | nil => intro cs h; simp at h; subst h; exact ⟨rfl, fun j i u h1 => by simp at h1⟩
      | cons i l ih =>
        intro cs h
        rw [List.mapM_cons] at h
        obtain ⟨c, h1, h2⟩ := Option.bind_eq_some_iff.1 h
        obtain ⟨r, h3, h4⟩ := Option.bind_eq_some_iff.1 h2
        cases h4
        obtain ⟨e1, e2⟩ := ih r h3
        refine ⟨by simp [e1], fun j i' u q1 q2 => ?_⟩
        cases j with
        | zero => simp at q1 q2; subst q1; subst q2; exact h1
        | succ j => exact e2 j i' u (by simpa using q1) (by simpa using q2)
    obtain ⟨e1, e2⟩ := key _ _ h
    refine ⟨by simpa using e1, fun j u hj => ?_⟩
    have hlt : j < n := by
      have := (List.getElem?_eq_some_iff.1 hj).1
      rw [e1] at this; simpa using this
    exact e2 j j u (List.getElem?_range hlt) hj
  · cases h
theorem spot_of {W : World} {a : Addr} {u : Value} (h : W.cell? a = some u) : a = ⟨a.block, a.off, none⟩ ∧ a.block < W.heap.size := by
  unfold World.cell? at h
  split at h
  · rename_i c _ _ hb
    split at h
    · cases h
    · rename_i hs
      refine ⟨?_, (Array.getElem?_eq_some_iff.1 hb).1⟩
      cases a with
      | mk b o s => cases s <;> simp_all
  · cases h
include hT
/-- The parts of a struct or an array, one behind the other. -/
theorem trod_parts {m : Nat} (ih : ∀ t, okT T m t = true → ∀ fuel cs d ps, DataW.trod enc P W base sp held fuel t cs = some (d, ps) → ∃ xs, All2 (SVR W (oI W)) cs xs ∧ Typ T (Rows.uptoBulk d) t xs) {fuel : Nat} {cs : List Value} :
    ∀ (L : List (Nat × Nat)) (off tot : Nat) (ys : List (DataW H × List MemPlace)), layB T off L = some tot → (L.all fun f => okT T m f.1) = true → L.mapM (fun p => DataW.trod enc P W base sp held fuel p.1 ((cs.drop p.2).take (P.cellsOf p.1))) = some ys → cs.length = tot → off ≤ tot →
      ∃ xss : List (List SV), xss.length = L.length ∧ All2 (SVR W (oI W)) (cs.drop off) xss.flatten ∧ ∀ (i : Nat) f xs, L[i]? = some f → xss[i]? = some xs → Typ T (Rows.uptoBulkAll (ys.map (·.1))) f.1 xs
  | [], off, tot, ys, hl, _, _, hc, _ => by
    simp only [layB, Option.some.injEq] at hl
    subst hl
    rw [List.drop_of_length_le (by omega)]
    exact ⟨[], rfl, .nil, fun i f xs h => by simp at h⟩
  | (ft, o) :: L, off, tot, ys, hl, hok, hm, hc, hle => by
    simp only [layB] at hl
    split at hl
    case h_2 => cases hl
    rename_i ti hti
    split at hl
    case isFalse => cases hl
    rename_i ho
    subst ho
    simp only [List.all_cons, Bool.and_eq_true] at hok
    rw [List.mapM_cons] at hm
    obtain ⟨y, h1, h2⟩ := Option.bind_eq_some_iff.1 hm
    obtain ⟨r, h3, h4⟩ := Option.bind_eq_some_iff.1 h2
    cases h4
    obtain ⟨d, p⟩ := y
    obtain ⟨xs, hx1, hx2⟩ := ih ft hok.1 fuel _ d p h1
    have hge : ∀ (L : List (Nat × Nat)) (off tot : Nat), layB T off L = some tot → off ≤ tot := by
      intro L
      induction L with
      | nil => intro off tot h; simp only [layB, Option.some.injEq] at h; omega
      | cons q L ihL =>
        intro off tot h
        obtain ⟨q1, q2⟩ := q
        simp only [layB] at h
        split at h
        · split at h
          · have := ihL _ _ h; omega
          · cases h
        · cases h
    have hle2 := hge L _ _ hl
    obtain ⟨xss, e1, e2, e3⟩ := trod_parts ih L (o + ti.size) tot r hl hok.2 h3 hc hle2
    rw [cellsOf_T (hT ft ti hti)] at hx1
    refine ⟨xs :: xss, by simp [e1], ?_, fun i f ys h1 h2 => ?_⟩
    · have : cs.drop o = (cs.drop o).take ti.size ++ cs.drop (o + ti.size) := by rw [← List.drop_drop, List.take_append_drop]
      rw [this, List.flatten_cons]
      exact hx1.append e2
    · cases i with
      | zero => simp at h1 h2; subst h1; subst h2; exact hx2.mono (by simp [Rows.uptoBulkAll])
      | succ i => exact (e3 i f ys (by simpa using h1) (by simpa using h2)).mono (by simp [Rows.uptoBulkAll])
theorem trod_typ : ∀ (m t : Nat), okT T m t = true → ∀ fuel cs d ps, DataW.trod enc P W base sp held fuel t cs = some (d, ps) → ∃ xs, All2 (SVR W (oI W)) cs xs ∧ Typ T (Rows.uptoBulk d) t xs
  | 0, t, h => by simp [okT] at h
  | m + 1, t, hok => by
    intro fuel cs d ps h
    cases fuel with
    | zero => simp [DataW.trod] at h
    | succ fuel =>
      simp only [okT] at hok
      split at hok
      · rename_i k s b z ht
        obtain ⟨dd, hu, he⟩ := (hT t _ ht).und'
        cases dd <;> simp [dK] at he
        subst he
        unfold DataW.trod at h
        rw [hu] at h
        split at h <;> simp_all
        obtain ⟨⟨rfl, hw⟩, rfl, rfl⟩ := h
        exact ⟨_, .cons (.raw _ rfl) .nil, .int t _ s b z _ ht hw⟩
      · rename_i s b z ht
        obtain ⟨dd, hu, he⟩ := (hT t _ ht).und'
        cases dd <;> simp [dK] at he
        unfold DataW.trod at h
        rw [hu] at h
        split at h <;> simp_all
        obtain ⟨rfl, rfl⟩ := h
        exact ⟨_, .cons (.raw _ rfl) .nil, .bool t s b z _ ht⟩
      · rename_i s b z ht
        have hu := (hT t _ ht).str rfl
        unfold DataW.trod at h
        rw [hu] at h
        split at h <;> simp_all
        obtain ⟨hsz, rfl, rfl⟩ := h
        exact ⟨_, .cons (.raw _ rfl) .nil, .str t s b z _ ht (by simp [Rows.uptoBulk])⟩
      · rename_i e s b z ht
        simp only [Bool.and_eq_true] at hok
        have hu := (hT t _ ht).slice rfl
        obtain ⟨ei, hei⟩ : ∃ ei, T e = some ei := by
          have := hok.1; unfold posB at this; split at this
          · rename_i ei h; exact ⟨ei, h⟩
          · cases this
        have he0 : 0 < ei.size := by have := hok.1; unfold posB at this; rw [hei] at this; simpa using this
        rcases Deep.open_slice hu h with ⟨rfl, hx⟩ | ⟨a, len, cap, mm, n, D, Pl, rfl, hb, hl, hm, hmm, hx, hel⟩
        · cases hx
          exact ⟨[.sl ei.size []], .cons (.nil _ _ _ fun _ => rfl) .nil, .sl t e s b z ei [] ht hei (by simp) (by simp) (by simp)⟩
        · cases hx
          have hlm : len ≤ mm := by rw [hmm]; split <;> omega
          have hex : ∀ i, ∃ r : List Value × List SV, i < len → W.cells? base (a.add (i * P.cellsOf e)) (P.cellsOf e) = some r.1 ∧ All2 (SVR W (oI W)) r.1 r.2 ∧ Typ T (Rows.uptoBulk (D i)) e r.2 := fun i => by
            by_cases hi : i < len
            · obtain ⟨cs', h1, h2⟩ := hel i (by omega)
              obtain ⟨xs, h3, h4⟩ := trod_typ m e hok.2 n cs' _ _ h2
              exact ⟨(cs', xs), fun _ => ⟨h1, h3, h4⟩⟩
            · exact ⟨([], []), fun h => absurd h hi⟩
          obtain ⟨F, hF⟩ := Classical.axiomOfChoice hex
          have hsz := cellsOf_T (hT e ei hei)
          rw [hsz] at hF
          have hF1 : ∀ i, i < len → (F i).1.length = ei.size ∧ (F i).2.length = ei.size := fun i hi => by
            obtain ⟨h1, h2, h3⟩ := hF i hi
            have := (cells_at h1).1
            exact ⟨this, by rw [← h2.1]; exact this⟩
          have hbulk : Rows.uptoBulk (DataW.slice ((List.range len).map D) ((List.range (mm - len)).map fun j => D (len + j))) = Rows.uptoBulkAll ((List.range len).map D) + Rows.uptoBulkAll ((List.range (mm - len)).map fun j => D (len + j)) + 1 := by simp [Rows.uptoBulk]
          have hmem : ∀ xs ∈ (List.range len).map fun i => (F i).2, ∃ i, i < len ∧ xs = (F i).2 := fun xs hxs => by
            obtain ⟨i, hi, rfl⟩ := List.mem_map.1 hxs
            exact ⟨i, List.mem_range.1 hi, rfl⟩
          have htyp : Typ T (Rows.uptoBulk (DataW.slice ((List.range len).map D) ((List.range (mm - len)).map fun j => D (len + j)))) t [.sl ei.size ((List.range len).map fun i => (F i).2).flatten] := by
            refine .sl t e s b z ei _ ht hei ?_ (fun xs hxs => ?_) fun xs hxs => ?_
            · have := length_le ((List.range len).map D)
              simp only [List.length_map, List.length_range] at this ⊢
              rw [hbulk]; omega
            · obtain ⟨i, hi, rfl⟩ := hmem xs hxs
              refine (hF i hi).2.2.mono ?_
              have := part_le (d := D i) (l := (List.range len).map D) (List.mem_map.2 ⟨i, List.mem_range.2 hi, rfl⟩)
              rw [hbulk]; omega
            · obtain ⟨i, hi, rfl⟩ := hmem xs hxs
              exact (hF1 i hi).2
          refine ⟨_, .cons ?_ .nil, htyp⟩
          by_cases h0 : len = 0
          · subst h0
            exact .nil _ _ _ fun h => by cases h
          · have hc0 := cells_at (hF 0 (by omega)).1
            have hl0 := (hF1 0 (by omega)).1
            obtain ⟨u0, hu0⟩ : ∃ u, (F 0).1[0]? = some u := ⟨(F 0).1[0]'(by omega), List.getElem?_eq_getElem (by omega)⟩
            obtain ⟨hsp, hlt⟩ := spot_of (hc0.2 0 u0 hu0)
            simp only [Nat.zero_mul, Addr.add, if_true] at hsp hlt
            have hrows : ∀ x ∈ (List.range len).map fun i => (F i).1, x.length = ei.size := fun x hx => by
              obtain ⟨i, hi, rfl⟩ := List.mem_map.1 hx
              exact (hF1 i (List.mem_range.1 hi)).1
            have hfl : ((List.range len).map fun i => (F i).1).flatten.length = len * ei.size := by rw [flat_len hrows]; simp
            have ha2 : All2 (SVR W (oI W)) ((List.range len).map fun i => (F i).1).flatten ((List.range len).map fun i => (F i).2).flatten := by
              refine all2_flat ⟨by simp, fun j us xs h1 h2 => ?_⟩
              rw [List.getElem?_map] at h1 h2
              cases hj : (List.range len)[j]? with
              | none => simp [hj] at h1
              | some i =>
                simp only [hj, Option.map_some, Option.some.injEq] at h1 h2
                subst h1; subst h2
                exact (hF i (List.mem_range.1 (List.mem_of_getElem? hj))).2.1
            rw [hsp]
            refine .sl a.block a.off len cap ei.size _ _ (by simp [oI, hlt]) he0 (by omega) (by rw [← ha2.1, hfl]) hl ha2.1 (fun j u hj => ?_) ha2.2
            rw [flat_get he0 hrows, List.getElem?_map] at hj
            cases hq : (List.range len)[j / ei.size]? with
            | none => simp [hq] at hj
            | some i =>
              have hi : i < len := List.mem_range.1 (List.mem_of_getElem? hq)
              have hiq : i = j / ei.size := by
                have hlt := (List.getElem?_eq_some_iff.1 hq).1
                simp only [List.length_range] at hlt
                rw [List.getElem?_range hlt] at hq
                injection hq with hq
                exact hq.symm
              simp only [hq, Option.map_some, Option.bind_some] at hj
              have := (cells_at (hF i hi).1).2 _ u hj
              have e1 : (a.add (i * ei.size)).add (j % ei.size) = ⟨a.block, a.off + j, none⟩ := by
                rw [hsp, Addr.add_lit, Addr.add_lit, hiq]
                have := Nat.div_add_mod j ei.size
                have e3 : a.off + j / ei.size * ei.size + j % ei.size = a.off + j := by rw [Nat.mul_comm (j / ei.size)]; omega
                simp only [e3]
              rw [e1] at this
              exact this
      · rename_i fs s b z ht
        simp only [Bool.and_eq_true, decide_eq_true_eq] at hok
        obtain ⟨dd, hu, he⟩ := (hT t _ ht).und'
        cases dd <;> simp [dK] at he
        rename_i fl
        have hstep : DataW.trod enc P W base sp held (fuel + 1) t cs = if cs.length = P.cellsOf t then (fl.toList.mapM fun f => DataW.trod enc P W base sp held fuel f.type ((cs.drop f.offset).take (P.cellsOf f.type))).map fun xs => (.agg (xs.map (·.1)), xs.flatMap (·.2)) else none := by
          simp only [DataW.trod, hu]
        rw [hstep] at h
        split at h
        case isFalse => cases h
        rename_i hlen
        obtain ⟨ys, h1, h2⟩ := Option.map_eq_some_iff.1 h
        cases h2
        have h1' : (fs.mapM fun p => DataW.trod enc P W base sp held fuel p.1 ((cs.drop p.2).take (P.cellsOf p.1))) = some ys := by
          rw [← he]
          have key : ∀ l : List Go.Field, (l.map fun f => (f.type, f.offset)).mapM (fun p : Nat × Nat => DataW.trod enc P W base sp held fuel p.1 ((cs.drop p.2).take (P.cellsOf p.1))) = l.mapM fun f => DataW.trod enc P W base sp held fuel f.type ((cs.drop f.offset).take (P.cellsOf f.type)) := by
            intro l
            induction l with
            | nil => rfl
            | cons f l ih => rw [List.map_cons, List.mapM_cons, List.mapM_cons, ih]
          rw [key]; exact h1
        rw [cellsOf_T (hT t _ ht)] at hlen
        obtain ⟨xss, e1, e2, e3⟩ := trod_parts hT (fun t h => trod_typ m t h) fs 0 s ys hok.1 (by simpa using hok.2) h1' hlen (Nat.zero_le _)
        refine ⟨xss.flatten, by simpa using e2, .struct t fs s b z xss ht e1 fun i f xs q1 q2 => (e3 i f xs q1 q2).mono (by simp [Rows.uptoBulk])⟩
      · rename_i n e s b z ht
        simp only [Bool.and_eq_true] at hok
        have hu := (hT t _ ht).arr rfl
        obtain ⟨ei, hei⟩ : ∃ ei, T e = some ei := by
          have := hok.1; unfold szB at this; split at this
          · rename_i ei h; exact ⟨ei, h⟩
          · cases this
        have hsn : s = n * ei.size := by have := hok.1; unfold szB at this; rw [hei] at this; simpa using this
        have hstep : DataW.trod enc P W base sp held (fuel + 1) t cs = if cs.length = P.cellsOf t then ((List.range n).mapM fun i => DataW.trod enc P W base sp held fuel e ((cs.drop (i * P.cellsOf e)).take (P.cellsOf e))).map fun xs => (.agg (xs.map (·.1)), xs.flatMap (·.2)) else none := by
          simp only [DataW.trod, hu]
        rw [hstep] at h
        split at h
        case isFalse => cases h
        rename_i hlen
        obtain ⟨ys, h1, h2⟩ := Option.map_eq_some_iff.1 h
        cases h2
        rw [cellsOf_T (hT t _ ht)] at hlen
        have h1' : (((List.range n).map fun i => (e, i * ei.size)).mapM fun p => DataW.trod enc P W base sp held fuel p.1 ((cs.drop p.2).take (P.cellsOf p.1))) = some ys := by
          have key : ∀ l : List Nat, (l.map fun i => (e, i * ei.size)).mapM (fun p : Nat × Nat => DataW.trod enc P W base sp held fuel p.1 ((cs.drop p.2).take (P.cellsOf p.1))) = l.mapM fun i => DataW.trod enc P W base sp held fuel e ((cs.drop (i * P.cellsOf e)).take (P.cellsOf e)) := by
            intro l
            induction l with
            | nil => rfl
            | cons i l ih => rw [List.map_cons, List.mapM_cons, List.mapM_cons, ih]; simp only [cellsOf_T (hT e ei hei)]
          rw [key]; exact h1
        have hlay : ∀ k off, layB T (off * ei.size) ((List.range' off k).map fun i => (e, i * ei.size)) = some ((off + k) * ei.size) := by
          intro k
          induction k with
          | zero => intro off; simp [layB]
          | succ k ih =>
            intro off
            rw [List.range'_succ, List.map_cons]
            simp only [layB, hei, if_true]
            rw [show off * ei.size + ei.size = (off + 1) * ei.size from (Nat.succ_mul off ei.size).symm, ih (off + 1)]
            congr 2; omega
        obtain ⟨xss, e1, e2, e3⟩ := trod_parts hT (fun t h => trod_typ m t h) ((List.range n).map fun i => (e, i * ei.size)) 0 s ys (by have := hlay n 0; rw [Nat.zero_mul, Nat.zero_add, ← List.range_eq_range'] at this; rw [this, hsn]) (by simp [hok.2]) h1' hlen (Nat.zero_le _)
        have e1' : xss.length = n := by simpa using e1
        refine ⟨xss.flatten, by simpa using e2, .arr t n e s b z xss ht e1' fun xs hxs => ?_⟩
        obtain ⟨i, hi⟩ := List.mem_iff_getElem?.1 hxs
        have hlt : i < n := by have := (List.getElem?_eq_some_iff.1 hi).1; omega
        exact (e3 i (e, i * ei.size) xs (by simp [hlt]) hi).mono (by simp [Rows.uptoBulk])
      · cases hok
end
end Go.Proofs.YtdpflafjfkooeaaDoorG
/- H2: what came in, by value: from types to numbers, lists and structs. -/
namespace Go.Proofs.YtdpflafjfkooeaaDoorG
open Go Go.RowKit Go.Proofs.YtdpflafjfkooeaaDoor
set_option linter.unusedVariables false
set_option linter.unusedSimpArgs false
theorem Typ.int' {T n t xs k s b z} (h : Typ T n t xs) (ht : T t = some ⟨.int k, s, b, z⟩) : ∃ m, xs = [.raw (.int k m)] ∧ k.min ≤ m ∧ m ≤ k.max := by
  cases h with
  | int _ k' _ _ _ m h hw =>
    rw [ht] at h
    simp only [Option.some.injEq, TI.mk.injEq, TK.int.injEq] at h
    obtain ⟨rfl, _⟩ := h
    exact ⟨m, rfl, by simpa [Lit.wf] using hw⟩
  | _ => simp_all
theorem Typ.bool' {T n t xs s b z} (h : Typ T n t xs) (ht : T t = some ⟨.bool, s, b, z⟩) : ∃ x, xs = [.raw (.bool x)] := by
  cases h <;> simp_all
theorem Typ.sl' {T n t xs e s b z ei} (h : Typ T n t xs) (ht : T t = some ⟨.slice e, s, b, z⟩) (hi : T e = some ei) : ∃ xss : List (List SV), xs = [.sl ei.size xss.flatten] ∧ xss.length ≤ n ∧ ∀ ys ∈ xss, Typ T n e ys := by
  cases h with
  | sl _ e' _ _ _ ei' xss h hi' hl hx hs =>
    rw [ht] at h
    simp only [Option.some.injEq, TI.mk.injEq, TK.slice.injEq] at h
    obtain ⟨rfl, _⟩ := h
    rw [hi] at hi'
    cases hi'
    exact ⟨xss, rfl, hl, hx⟩
  | _ => simp_all
theorem Typ.struct' {T n t xs fs s b z} (h : Typ T n t xs) (ht : T t = some ⟨.struct fs, s, b, z⟩) : ∃ xss : List (List SV), xs = xss.flatten ∧ All2 (fun (f : Nat × Nat) ys => Typ T n f.1 ys) fs xss := by
  cases h with
  | struct _ fs' _ _ _ xss h hl hx =>
    rw [ht] at h
    simp only [Option.some.injEq, TI.mk.injEq, TK.struct.injEq] at h
    obtain ⟨rfl, _⟩ := h
    exact ⟨xss, rfl, hl.symm, hx⟩
  | _ => simp_all
theorem all2_c1 {α β : Type} {R : α → β → Prop} {u : α} {us : List α} {xs : List β} (h : All2 R (u :: us) xs) : ∃ x xs', xs = x :: xs' ∧ R u x ∧ All2 R us xs' := by
  cases xs with
  | nil => have := h.1; simp at this
  | cons x xs => exact ⟨x, xs, rfl, h.head, h.tail⟩
theorem all2_n {α β : Type} {R : α → β → Prop} {xs : List β} (h : All2 R ([] : List α) xs) : xs = [] := by
  have := h.1; exact List.eq_nil_of_length_eq_zero (by simpa using this.symm)
/-- One by one. -/
theorem choose_l {α β : Type} {p : β → Prop} {f : β → α} : ∀ {xs : List α}, (∀ x ∈ xs, ∃ y, x = f y ∧ p y) → ∃ ys : List β, xs = ys.map f ∧ ∀ y ∈ ys, p y
  | [], _ => ⟨[], rfl, fun y hy => by cases hy⟩
  | x :: xs, h => by
    obtain ⟨y, rfl, hy⟩ := h x (by simp)
    obtain ⟨ys, rfl, hys⟩ := choose_l (fun x hx => h x (by simp [hx]) : ∀ x ∈ xs, ∃ y, x = f y ∧ p y)
    exact ⟨y :: ys, rfl, fun z hz => by rcases List.mem_cons.1 hz with rfl | hz; exact hy; exact hys z hz⟩
/-- A list of whole numbers. -/
theorem Typ.ints {T n t xs e k s b z s' b' z'} (h : Typ T n t xs) (ht : T t = some ⟨.slice e, s, b, z⟩) (hi : T e = some ⟨.int k, s', b', z'⟩) : ∃ l : List Int, xs = [.sl s' (l.map fun n => .raw (.int k n))] ∧ (∀ m ∈ l, k.min ≤ m ∧ m ≤ k.max) ∧ l.length ≤ n := by
  obtain ⟨xss, rfl, hl, hx⟩ := h.sl' ht hi
  obtain ⟨l, rfl, hp⟩ := choose_l (p := fun m => k.min ≤ m ∧ m ≤ k.max) (f := fun m => [SV.raw (.int k m)]) fun ys hys => (hx ys hys).int' hi
  refine ⟨l, ?_, hp, by simpa using hl⟩
  congr 2
  clear hx hl hp h
  induction l with
  | nil => rfl
  | cons m l ih => simp only [List.map_cons, List.flatten_cons, ih]; rfl
theorem flat_map {α : Type} {f : α → List SV} (l : List α) : (l.map f).flatten = l.flatMap f := by rw [List.flatMap_def]
/-! ### parameters -/
section
variable {H : Type} {enc : TypeId × Value → H} {P : Program} {T : Tab} (hT : Tok P T) {W : World} {base : Nat} {sp : Nat → Bool} {held : Bool}
def gI (W : World) : Gh := { o := oI W, hd := fun _ => undef, bk := fun _ => 0 }
include hT
theorem arg_one {v : Value} {d : DataW H} {p : List MemPlace} {t m n : Nat} (hok : okT T m t = true) (h : DataW.Trod enc P W base sp held t v d p) (hn : Rows.uptoBulk d ≤ n) (hc : v.cells.toList = [v]) : ∃ x, Typ T n t [x] ∧ XR W (gI W) v (.p (.one (.v x))) := by
  obtain ⟨fuel, hf⟩ := h
  rw [hc] at hf
  obtain ⟨xs, h1, h2⟩ := trod_typ hT m t hok fuel _ d p hf
  obtain ⟨x, xs', rfl, hx, hn'⟩ := all2_c1 h1
  have := all2_n hn'
  subst this
  exact ⟨x, h2.mono hn, hx⟩
theorem arg_agg {cs : Array Value} {d : DataW H} {p : List MemPlace} {t m n : Nat} (hok : okT T m t = true) (h : DataW.Trod enc P W base sp held t (.agg cs) d p) (hn : Rows.uptoBulk d ≤ n) : ∃ xs, Typ T n t xs ∧ XR W (gI W) (.agg cs) (.p (.agg (xs.map .v))) := by
  obtain ⟨fuel, hf⟩ := h
  obtain ⟨xs, h1, h2⟩ := trod_typ hT m t hok fuel _ d p hf
  exact ⟨xs, h2.mono hn, cs, rfl, h1.svTv⟩
end
theorem gI_other (W : World) (b : Nat) : (gI W).o b = .other ∨ (gI W).o b = .imm := by simp only [gI, oI]; split <;> simp
theorem gI_lt (W : World) (b : Nat) (h : (gI W).o b ≠ .other) : b < W.heap.size := by simp only [gI, oI] at h; split at h <;> simp_all
theorem Fr.below {W W' : World} {g' : Gh} (h : Fr W W' (gI W).o g'.o) : Below W.heap.size W W' := ⟨h.os, h.tape, h.output, h.size, fun b hb => (h.keep b hb (gI_other W b)).1⟩
theorem bulk1 {H : Type} {ds : List (DataW H)} {d : DataW H} (hk : Rows.uptoSmall H ds = true) (h : d ∈ ds) : Rows.uptoBulk d ≤ 1048576 := Nat.le_trans (part_le h) (of_decide_eq_true hk)
/-- A law that answers true, called at what came in. -/
theorem gr_no {w : World} {o : Nat → Tag} (h : GON = false) : GR w o := fun q => by rw [h] at q; cases q
theorem gr_gI {W : World} (h : W.cell? ⟨0, 0, none⟩ = some GV) : GR W (gI W).o := fun _ => by
  have hlt : 0 < W.heap.size := by
    rcases Nat.eq_zero_or_pos W.heap.size with h0 | h'
    · simp [World.cell?, h0] at h
    · exact h'
  exact ⟨by simp only [gI, oI, if_pos hlt], h⟩
theorem law_calls {P : Program} {f : Nat} {xs : List X} {fr : Bool} {rows : Rows} {W : World} {vs : List Value} (h : CallOk P f xs (bo true) rows fr) (ha : All2 (XR W (gI W)) vs xs) (hG : GR W (gI W).o := by exact gr_no rfl) : Calls P f vs.toArray W fun e W' => e = .returned (.bool true) ∧ Below W.heap.size W W' :=
  (h.calls W vs (gI W) (gI_other W) (gI_lt W) hG ha).mono fun e W' hh => by
    obtain ⟨v, g', rfl, hf, _, hx, _⟩ := hh
    have := (raw_of hx).1
    exact ⟨by rw [this], hf.below⟩
end Go.Proofs.YtdpflafjfkooeaaDoorG
/- The seat's types, as a table (written by gt.py, a program of this session's own). -/
namespace Go.Proofs.YtdpflafjfkooeaaDoorG
open Go Go.Proofs
set_option linter.defProp false
set_option maxRecDepth 100000
def ti2 : TI := ⟨.int .i64, 1, 8, [.raw (.int .i64 0)]⟩
theorem ti2_ok : TIok Tryd.prog 2 ti2 := ⟨by kernel_rfl, by kernel_rfl, by kernel_rfl⟩
def ti3 : TI := ⟨.int .i64, 1, 8, [.raw (.int .i64 0)]⟩
theorem ti3_ok : TIok Tryd.prog 3 ti3 := ⟨by kernel_rfl, by kernel_rfl, by kernel_rfl⟩
def ti4 : TI := ⟨.bool, 1, 1, [.raw (.bool false)]⟩
theorem ti4_ok : TIok Tryd.prog 4 ti4 := ⟨by kernel_rfl, by kernel_rfl, by kernel_rfl⟩
def ti5 : TI := ⟨.int .u8, 1, 1, [.raw (.int .u8 0)]⟩
theorem ti5_ok : TIok Tryd.prog 5 ti5 := ⟨by kernel_rfl, by kernel_rfl, by kernel_rfl⟩
def ti6 : TI := ⟨.int .u8, 1, 1, [.raw (.int .u8 0)]⟩
theorem ti6_ok : TIok Tryd.prog 6 ti6 := ⟨by kernel_rfl, by kernel_rfl, by kernel_rfl⟩
def ti7 : TI := ⟨.struct [(2, 0), (3, 1), (4, 2), (6, 3)], 4, 24, [.raw (.int .i64 0), .raw (.int .i64 0), .raw (.bool false), .raw (.int .u8 0)]⟩
theorem ti7_ok : TIok Tryd.prog 7 ti7 := ⟨by kernel_rfl, by kernel_rfl, by kernel_rfl⟩
def ti8 : TI := ⟨.struct [(2, 0), (3, 1), (4, 2), (6, 3)], 4, 24, [.raw (.int .i64 0), .raw (.int .i64 0), .raw (.bool false), .raw (.int .u8 0)]⟩
theorem ti8_ok : TIok Tryd.prog 8 ti8 := ⟨by kernel_rfl, by kernel_rfl, by kernel_rfl⟩
def ti9 : TI := ⟨.str, 1, 16, [.raw (.string "".toUTF8)]⟩
theorem ti9_ok : TIok Tryd.prog 9 ti9 := ⟨by kernel_rfl, by kernel_rfl, by kernel_rfl⟩
def ti10 : TI := ⟨.str, 1, 16, [.raw (.string "".toUTF8)]⟩
theorem ti10_ok : TIok Tryd.prog 10 ti10 := ⟨by kernel_rfl, by kernel_rfl, by kernel_rfl⟩
def ti11 : TI := ⟨.str, 1, 16, [.raw (.string "".toUTF8)]⟩
theorem ti11_ok : TIok Tryd.prog 11 ti11 := ⟨by kernel_rfl, by kernel_rfl, by kernel_rfl⟩
def ti12 : TI := ⟨.int .u64, 1, 8, [.raw (.int .u64 0)]⟩
theorem ti12_ok : TIok Tryd.prog 12 ti12 := ⟨by kernel_rfl, by kernel_rfl, by kernel_rfl⟩
def ti13 : TI := ⟨.struct [(9, 0), (12, 1)], 2, 24, [.raw (.string "".toUTF8), .raw (.int .u64 0)]⟩
theorem ti13_ok : TIok Tryd.prog 13 ti13 := ⟨by kernel_rfl, by kernel_rfl, by kernel_rfl⟩
def ti14 : TI := ⟨.struct [(9, 0), (12, 1)], 2, 24, [.raw (.string "".toUTF8), .raw (.int .u64 0)]⟩
theorem ti14_ok : TIok Tryd.prog 14 ti14 := ⟨by kernel_rfl, by kernel_rfl, by kernel_rfl⟩
def ti15 : TI := ⟨.ptr 161, 1, 8, [.raw (.pointer none)]⟩
theorem ti15_ok : TIok Tryd.prog 15 ti15 := ⟨by kernel_rfl, by kernel_rfl, by kernel_rfl⟩
def ti16 : TI := ⟨.ptr 164, 1, 8, [.raw (.pointer none)]⟩
theorem ti16_ok : TIok Tryd.prog 16 ti16 := ⟨by kernel_rfl, by kernel_rfl, by kernel_rfl⟩
def ti17 : TI := ⟨.ptr 173, 1, 8, [.raw (.pointer none)]⟩
theorem ti17_ok : TIok Tryd.prog 17 ti17 := ⟨by kernel_rfl, by kernel_rfl, by kernel_rfl⟩
def ti18 : TI := ⟨.struct [(17, 0)], 1, 8, [.raw (.pointer none)]⟩
theorem ti18_ok : TIok Tryd.prog 18 ti18 := ⟨by kernel_rfl, by kernel_rfl, by kernel_rfl⟩
def ti19 : TI := ⟨.struct [(17, 0)], 1, 8, [.raw (.pointer none)]⟩
theorem ti19_ok : TIok Tryd.prog 19 ti19 := ⟨by kernel_rfl, by kernel_rfl, by kernel_rfl⟩
def ti20 : TI := ⟨.iface, 1, 16, [.raw (.nilIface)]⟩
theorem ti20_ok : TIok Tryd.prog 20 ti20 := ⟨by kernel_rfl, by kernel_rfl, by kernel_rfl⟩
def ti21 : TI := ⟨.int .i32, 1, 4, [.raw (.int .i32 0)]⟩
theorem ti21_ok : TIok Tryd.prog 21 ti21 := ⟨by kernel_rfl, by kernel_rfl, by kernel_rfl⟩
def ti22 : TI := ⟨.struct [(3, 0), (3, 1), (3, 2)], 3, 24, [.raw (.int .i64 0), .raw (.int .i64 0), .raw (.int .i64 0)]⟩
theorem ti22_ok : TIok Tryd.prog 22 ti22 := ⟨by kernel_rfl, by kernel_rfl, by kernel_rfl⟩
def ti23 : TI := ⟨.struct [(3, 0), (3, 1), (3, 2)], 3, 24, [.raw (.int .i64 0), .raw (.int .i64 0), .raw (.int .i64 0)]⟩
theorem ti23_ok : TIok Tryd.prog 23 ti23 := ⟨by kernel_rfl, by kernel_rfl, by kernel_rfl⟩
def ti24 : TI := ⟨.slice 21, 1, 24, [.nil 21 1]⟩
theorem ti24_ok : TIok Tryd.prog 24 ti24 := ⟨by kernel_rfl, by kernel_rfl, by kernel_rfl⟩
def ti25 : TI := ⟨.struct [(3, 0), (3, 1), (3, 2), (24, 3)], 4, 48, [.raw (.int .i64 0), .raw (.int .i64 0), .raw (.int .i64 0), .nil 21 1]⟩
theorem ti25_ok : TIok Tryd.prog 25 ti25 := ⟨by kernel_rfl, by kernel_rfl, by kernel_rfl⟩
def ti26 : TI := ⟨.struct [(3, 0), (3, 1), (3, 2), (24, 3)], 4, 48, [.raw (.int .i64 0), .raw (.int .i64 0), .raw (.int .i64 0), .nil 21 1]⟩
theorem ti26_ok : TIok Tryd.prog 26 ti26 := ⟨by kernel_rfl, by kernel_rfl, by kernel_rfl⟩
def ti27 : TI := ⟨.slice 64, 1, 24, [.nil 64 3]⟩
theorem ti27_ok : TIok Tryd.prog 27 ti27 := ⟨by kernel_rfl, by kernel_rfl, by kernel_rfl⟩
def ti28 : TI := ⟨.struct [(24, 0), (27, 1), (27, 2)], 3, 72, [.nil 21 1, .nil 64 3, .nil 64 3]⟩
theorem ti28_ok : TIok Tryd.prog 28 ti28 := ⟨by kernel_rfl, by kernel_rfl, by kernel_rfl⟩
def ti29 : TI := ⟨.struct [(24, 0), (27, 1), (27, 2)], 3, 72, [.nil 21 1, .nil 64 3, .nil 64 3]⟩
theorem ti29_ok : TIok Tryd.prog 29 ti29 := ⟨by kernel_rfl, by kernel_rfl, by kernel_rfl⟩
def ti32 : TI := ⟨.int .i64, 1, 8, [.raw (.int .i64 0)]⟩
theorem ti32_ok : TIok Tryd.prog 32 ti32 := ⟨by kernel_rfl, by kernel_rfl, by kernel_rfl⟩
def ti44 : TI := ⟨.slice 26, 1, 24, [.nil 26 4]⟩
theorem ti44_ok : TIok Tryd.prog 44 ti44 := ⟨by kernel_rfl, by kernel_rfl, by kernel_rfl⟩
def ti45 : TI := ⟨.slice 5, 1, 24, [.nil 5 1]⟩
theorem ti45_ok : TIok Tryd.prog 45 ti45 := ⟨by kernel_rfl, by kernel_rfl, by kernel_rfl⟩
def ti51 : TI := ⟨.int .u64, 1, 8, [.raw (.int .u64 0)]⟩
theorem ti51_ok : TIok Tryd.prog 51 ti51 := ⟨by kernel_rfl, by kernel_rfl, by kernel_rfl⟩
def ti53 : TI := ⟨.slice 4, 1, 24, [.nil 4 1]⟩
theorem ti53_ok : TIok Tryd.prog 53 ti53 := ⟨by kernel_rfl, by kernel_rfl, by kernel_rfl⟩
def ti55 : TI := ⟨.struct [(29, 0), (3, 3), (3, 4)], 5, 88, [.nil 21 1, .nil 64 3, .nil 64 3, .raw (.int .i64 0), .raw (.int .i64 0)]⟩
theorem ti55_ok : TIok Tryd.prog 55 ti55 := ⟨by kernel_rfl, by kernel_rfl, by kernel_rfl⟩
def ti56 : TI := ⟨.struct [(29, 0), (3, 3), (3, 4)], 5, 88, [.nil 21 1, .nil 64 3, .nil 64 3, .raw (.int .i64 0), .raw (.int .i64 0)]⟩
theorem ti56_ok : TIok Tryd.prog 56 ti56 := ⟨by kernel_rfl, by kernel_rfl, by kernel_rfl⟩
def ti63 : TI := ⟨.struct [(3, 0), (24, 1), (24, 2)], 3, 56, [.raw (.int .i64 0), .nil 21 1, .nil 21 1]⟩
theorem ti63_ok : TIok Tryd.prog 63 ti63 := ⟨by kernel_rfl, by kernel_rfl, by kernel_rfl⟩
def ti64 : TI := ⟨.struct [(3, 0), (24, 1), (24, 2)], 3, 56, [.raw (.int .i64 0), .nil 21 1, .nil 21 1]⟩
theorem ti64_ok : TIok Tryd.prog 64 ti64 := ⟨by kernel_rfl, by kernel_rfl, by kernel_rfl⟩
def ti66 : TI := ⟨.arr 3 3, 3, 24, [.raw (.int .i64 0), .raw (.int .i64 0), .raw (.int .i64 0)]⟩
theorem ti66_ok : TIok Tryd.prog 66 ti66 := ⟨by kernel_rfl, by kernel_rfl, by kernel_rfl⟩
def ti85 : TI := ⟨.iface, 1, 16, [.raw (.nilIface)]⟩
theorem ti85_ok : TIok Tryd.prog 85 ti85 := ⟨by kernel_rfl, by kernel_rfl, by kernel_rfl⟩
def ti86 : TI := ⟨.iface, 1, 16, [.raw (.nilIface)]⟩
theorem ti86_ok : TIok Tryd.prog 86 ti86 := ⟨by kernel_rfl, by kernel_rfl, by kernel_rfl⟩
def ti106 : TI := ⟨.slice 32, 1, 24, [.nil 32 1]⟩
theorem ti106_ok : TIok Tryd.prog 106 ti106 := ⟨by kernel_rfl, by kernel_rfl, by kernel_rfl⟩
def ti107 : TI := ⟨.ptr 109, 1, 8, [.raw (.pointer none)]⟩
theorem ti107_ok : TIok Tryd.prog 107 ti107 := ⟨by kernel_rfl, by kernel_rfl, by kernel_rfl⟩
def ti109 : TI := ⟨.struct [(32, 0)], 1, 8, [.raw (.int .i64 0)]⟩
theorem ti109_ok : TIok Tryd.prog 109 ti109 := ⟨by kernel_rfl, by kernel_rfl, by kernel_rfl⟩
def ti111 : TI := ⟨.ptr 107, 1, 8, [.raw (.pointer none)]⟩
theorem ti111_ok : TIok Tryd.prog 111 ti111 := ⟨by kernel_rfl, by kernel_rfl, by kernel_rfl⟩
def ti116 : TI := ⟨.other, 1, 8, [.raw (.nilFunc)]⟩
theorem ti116_ok : TIok Tryd.prog 116 ti116 := ⟨by kernel_rfl, by kernel_rfl, by kernel_rfl⟩
def ti119 : TI := ⟨.ptr 121, 1, 8, [.raw (.pointer none)]⟩
theorem ti119_ok : TIok Tryd.prog 119 ti119 := ⟨by kernel_rfl, by kernel_rfl, by kernel_rfl⟩
def ti121 : TI := ⟨.struct [(45, 0)], 1, 24, [.nil 5 1]⟩
theorem ti121_ok : TIok Tryd.prog 121 ti121 := ⟨by kernel_rfl, by kernel_rfl, by kernel_rfl⟩
def ti126 : TI := ⟨.other, 1, 8, [.raw (.pointer none)]⟩
theorem ti126_ok : TIok Tryd.prog 126 ti126 := ⟨by kernel_rfl, by kernel_rfl, by kernel_rfl⟩
def ti127 : TI := ⟨.int .u64, 1, 8, [.raw (.int .u64 0)]⟩
theorem ti127_ok : TIok Tryd.prog 127 ti127 := ⟨by kernel_rfl, by kernel_rfl, by kernel_rfl⟩
def ti129 : TI := ⟨.struct [(17, 0), (126, 1), (127, 2)], 3, 24, [.raw (.pointer none), .raw (.pointer none), .raw (.int .u64 0)]⟩
theorem ti129_ok : TIok Tryd.prog 129 ti129 := ⟨by kernel_rfl, by kernel_rfl, by kernel_rfl⟩
def ti132 : TI := ⟨.iface, 1, 16, [.raw (.nilIface)]⟩
theorem ti132_ok : TIok Tryd.prog 132 ti132 := ⟨by kernel_rfl, by kernel_rfl, by kernel_rfl⟩
def ti134 : TI := ⟨.int .u8, 1, 1, [.raw (.int .u8 0)]⟩
theorem ti134_ok : TIok Tryd.prog 134 ti134 := ⟨by kernel_rfl, by kernel_rfl, by kernel_rfl⟩
def ti155 : TI := ⟨.slice 86, 1, 24, [.nil 86 1]⟩
theorem ti155_ok : TIok Tryd.prog 155 ti155 := ⟨by kernel_rfl, by kernel_rfl, by kernel_rfl⟩
def T : Tab
  | 2 => some ti2
  | 3 => some ti3
  | 4 => some ti4
  | 5 => some ti5
  | 6 => some ti6
  | 7 => some ti7
  | 8 => some ti8
  | 9 => some ti9
  | 10 => some ti10
  | 11 => some ti11
  | 12 => some ti12
  | 13 => some ti13
  | 14 => some ti14
  | 15 => some ti15
  | 16 => some ti16
  | 17 => some ti17
  | 18 => some ti18
  | 19 => some ti19
  | 20 => some ti20
  | 21 => some ti21
  | 22 => some ti22
  | 23 => some ti23
  | 24 => some ti24
  | 25 => some ti25
  | 26 => some ti26
  | 27 => some ti27
  | 28 => some ti28
  | 29 => some ti29
  | 32 => some ti32
  | 44 => some ti44
  | 45 => some ti45
  | 51 => some ti51
  | 53 => some ti53
  | 55 => some ti55
  | 56 => some ti56
  | 63 => some ti63
  | 64 => some ti64
  | 66 => some ti66
  | 85 => some ti85
  | 86 => some ti86
  | 106 => some ti106
  | 107 => some ti107
  | 109 => some ti109
  | 111 => some ti111
  | 116 => some ti116
  | 119 => some ti119
  | 121 => some ti121
  | 126 => some ti126
  | 127 => some ti127
  | 129 => some ti129
  | 132 => some ti132
  | 134 => some ti134
  | 155 => some ti155
  | _ => none
def ET := And.intro @ti2.eq_1 <| And.intro @ti3.eq_1 <| And.intro @ti4.eq_1 <| And.intro @ti5.eq_1 <| And.intro @ti6.eq_1 <| And.intro @ti7.eq_1 <| And.intro @ti8.eq_1 <| And.intro @ti9.eq_1 <| And.intro @ti10.eq_1 <| And.intro @ti11.eq_1 <| And.intro @ti12.eq_1 <| And.intro @ti13.eq_1 <| And.intro @ti14.eq_1 <| And.intro @ti15.eq_1 <| And.intro @ti16.eq_1 <| And.intro @ti17.eq_1 <| And.intro @ti18.eq_1 <| And.intro @ti19.eq_1 <| And.intro @ti20.eq_1 <| And.intro @ti21.eq_1 <| And.intro @ti22.eq_1 <| And.intro @ti23.eq_1 <| And.intro @ti24.eq_1 <| And.intro @ti25.eq_1 <| And.intro @ti26.eq_1 <| And.intro @ti27.eq_1 <| And.intro @ti28.eq_1 <| And.intro @ti29.eq_1 <| And.intro @ti32.eq_1 <| And.intro @ti44.eq_1 <| And.intro @ti45.eq_1 <| And.intro @ti51.eq_1 <| And.intro @ti53.eq_1 <| And.intro @ti55.eq_1 <| And.intro @ti56.eq_1 <| And.intro @ti63.eq_1 <| And.intro @ti64.eq_1 <| And.intro @ti66.eq_1 <| And.intro @ti85.eq_1 <| And.intro @ti86.eq_1 <| And.intro @ti106.eq_1 <| And.intro @ti107.eq_1 <| And.intro @ti109.eq_1 <| And.intro @ti111.eq_1 <| And.intro @ti116.eq_1 <| And.intro @ti119.eq_1 <| And.intro @ti121.eq_1 <| And.intro @ti126.eq_1 <| And.intro @ti127.eq_1 <| And.intro @ti129.eq_1 <| And.intro @ti132.eq_1 <| And.intro @ti134.eq_1 <| @ti155.eq_1
theorem T_ok : Tok Tryd.prog T := by
  intro t i h
  unfold T at h
  split at h
  · cases h; exact ti2_ok
  · cases h; exact ti3_ok
  · cases h; exact ti4_ok
  · cases h; exact ti5_ok
  · cases h; exact ti6_ok
  · cases h; exact ti7_ok
  · cases h; exact ti8_ok
  · cases h; exact ti9_ok
  · cases h; exact ti10_ok
  · cases h; exact ti11_ok
  · cases h; exact ti12_ok
  · cases h; exact ti13_ok
  · cases h; exact ti14_ok
  · cases h; exact ti15_ok
  · cases h; exact ti16_ok
  · cases h; exact ti17_ok
  · cases h; exact ti18_ok
  · cases h; exact ti19_ok
  · cases h; exact ti20_ok
  · cases h; exact ti21_ok
  · cases h; exact ti22_ok
  · cases h; exact ti23_ok
  · cases h; exact ti24_ok
  · cases h; exact ti25_ok
  · cases h; exact ti26_ok
  · cases h; exact ti27_ok
  · cases h; exact ti28_ok
  · cases h; exact ti29_ok
  · cases h; exact ti32_ok
  · cases h; exact ti44_ok
  · cases h; exact ti45_ok
  · cases h; exact ti51_ok
  · cases h; exact ti53_ok
  · cases h; exact ti55_ok
  · cases h; exact ti56_ok
  · cases h; exact ti63_ok
  · cases h; exact ti64_ok
  · cases h; exact ti66_ok
  · cases h; exact ti85_ok
  · cases h; exact ti86_ok
  · cases h; exact ti106_ok
  · cases h; exact ti107_ok
  · cases h; exact ti109_ok
  · cases h; exact ti111_ok
  · cases h; exact ti116_ok
  · cases h; exact ti119_ok
  · cases h; exact ti121_ok
  · cases h; exact ti126_ok
  · cases h; exact ti127_ok
  · cases h; exact ti129_ok
  · cases h; exact ti132_ok
  · cases h; exact ti134_ok
  · cases h; exact ti155_ok
  · cases h
end Go.Proofs.YtdpflafjfkooeaaDoorG
/- G17: what is known of functions: whatever has been shown of them. -/
namespace Go.Proofs.YtdpflafjfkooeaaDoorG
open Go Go.RowKit Go.Proofs
set_option linter.unusedSimpArgs false
/-- Functions that are handed an own row, as their first argument. -/
def mvB : Nat → Bool
  | 30 => true
  | 37 => true
  | 36 => true
  | _ => false
/-- Functions that are lent own variables. -/
def bxB : Nat → Bool
  | 81 => true
  | 69 => true
  | 70 => true
  | 72 => true
  | 71 => true
  | 68 => true
  | 67 => true
  | _ => false
/-- Functions that sort an own row in its place. -/
def sxB : Nat → Bool
  | _ => false
/-- Every function of which a contract is shown. -/
def orc (P : Program) : Orc := ⟨fun f args K => ∃ res rows fr, CallOk P f args res rows fr ∧ K res rows fr, fun gf caps K => ∃ els, IterOk P gf caps els ∧ K els, fun f row args K => ∃ res rows, CallM P f row args res rows ∧ K res rows, mvB, fun f bs args K => ∃ out, CallB P f bs args out ∧ K out, bxB, fun f row args K => ∃ ys, CallS P f row args ys ∧ K ys, sxB⟩
theorem orc_mv (P f) : (orc P).mv f = mvB f := rfl
theorem orc_bx (P f) : (orc P).bx f = bxB f := rfl
theorem orc_sx (P f) : (orc P).sx f = sxB f := rfl
theorem orc_ok (P : Program) : OrcOk P (orc P) := ⟨fun _ _ _ _ h => h, fun _ _ _ _ h => h, fun _ _ _ _ h => h, fun _ _ _ h => h, fun _ _ _ h => h⟩
theorem orc_bc {P : Program} {f bs args K out} (h : CallB P f bs args out) (hK : K out) : (orc P).b f bs args K := ⟨out, h, hK⟩
theorem orc_bi {P : Program} {f bs args K} {c : Prop} [Decidable c] {o1 o2 : Out} (h : CallB P f bs args (if c then o1 else o2)) (h1 : c → K o1) (h2 : ¬ c → K o2) : (orc P).b f bs args K := by
  refine ⟨_, h, ?_⟩
  split
  · exact h1 ‹_›
  · exact h2 ‹_›
theorem orc_m {P : Program} {f row args K res rows} (h : CallM P f row args res rows) (hK : K res rows) : (orc P).m f row args K := ⟨res, rows, h, hK⟩
theorem orc_i {P : Program} {f args K res rows fr} (h : CallOk P f args res rows fr) (hK : K res rows fr) : (orc P).f f args K := ⟨res, rows, fr, h, hK⟩
theorem orc_b {P : Program} {f args K b rows fr} (h : CallOk P f args (bo b) rows fr) (h1 : b = true → K (bo true) rows fr) (h2 : b = false → K (bo false) rows fr) : (orc P).f f args K := by
  refine ⟨_, _, _, h, ?_⟩
  cases b
  · exact h2 rfl
  · exact h1 rfl
theorem orc_it {P : Program} {gf caps els} (h : IterOk P gf caps els) (K : List (List X) → Prop) (hK : K els) : (orc P).it gf caps K := ⟨els, h, hK⟩
theorem mixed : Tryd.prog.follows .mixedOrders = true := by kernel_rfl
end Go.Proofs.YtdpflafjfkooeaaDoorG
namespace Go.Proofs.YtdpflafjfkooeaaDoorG
open Go Go.RowKit Go.Proofs
set_option linter.unusedSimpArgs false
abbrev i32 (n : Int) : X := .p (.one (.v (.raw (.int .i32 n))))
abbrev fnv (f : Nat) : X := .p (.one (.v (.raw (.func (.func f) #[] #[]))))
/-- Runes. -/
def rn (l : List Int) : List SV := l.map fun n => .raw (.int .i32 n)
theorem rn_len (l : List Int) : (rn l).length = l.length := by simp [rn]
theorem tv_rn {l : List Int} {j : Nat} (h : j < l.length) : (List.map TV.v (rn l)).getD j .dead = .v (.raw (.int .i32 (l.getD j 0))) := by
  simp [rn, List.getD, List.getElem?_eq_getElem h]
theorem rn_app (a b : List Int) : rn (a ++ b) = rn a ++ rn b := by simp [rn]
abbrev R32 (n : Int) : Prop := -2147483648 ≤ n ∧ n ≤ 2147483647
set_option maxRecDepth 10000 in
theorem spliced_ok (l came : List SV) (at_ gone : Int) (h0 : 0 ≤ at_) (h1 : 0 ≤ gone) (h2 : at_ + gone ≤ l.length) (h3 : l.length + came.length ≤ 2000000) :
    CallOk Tryd.prog 53 [sl l, i64 at_, i64 gone, sl came] (.p (.one (.sr 0))) [(21, 1, l.take at_.toNat ++ came ++ l.drop (at_ + gone).toNat)] false := by
  have c1 := cut_len (e := 1) rfl (Int.le_refl 0) h0 (by omega : at_ ≤ l.length)
  have c2 := cut_len (e := 1) rfl (by omega) h2 (Int.le_refl (l.length : Int))
  refine fn_ok' T_ok (noO_ok _) mixed Tryd.func53 rfl (by kernel_rfl) (lv [[0, 1, 2, 3], [0, 1, 2, 3, 9], [8]]) 31 rfl (by simp) rfl (by simp) ?_
  simp only [argsG, Nat.zero_add, Nat.reduceAdd]
  repeat' first
    | ((first
        | ((with_reducible refine vR_cons (by decide) ?_); generalize hk : KtR _ _ _ _ _ _ _ _ _ _ = k)
        | ((first
        | with_reducible refine vOps_cons' ?_) <;> generalize hk : Kt _ _ _ _ _ _ _ _ _ = k)) <;> (simp only [Tryd.f53, lv, E1, E2, E5, ET, T, orc_mv, noO_mv, mvB, orc_bx, noO_bx, bxB, orc_sx, noO_sx, sxB, fwd, fwds, inv, mOk, Int.toNat_natCast, Nat.div_one, Nat.mul_one, Int.reduceToNat, SB, List.not_mem_nil, ↓reduceIte, ne_eq, reduceCtorEq, Nat.reduceLT, Nat.reduceEqDiff, Nat.reduceAdd, Nat.reduceMul, Nat.reduceLeDiff, Nat.reduceDiv, Nat.reduceMod, Nat.reduceSub, Nat.reduceBEq]; (try simp (disch := omega) only [wrap_in, Int.toNat_natCast]); subst hk))
    | with_reducible first | refine Kt_p ?_ | refine Kt_i (by kernel_rfl) ?_ | refine Kr_f (by kernel_rfl) ?_
    | (with_reducible refine Kr_t ?_; simp only [List.length_append, List.length_cons, List.length_nil, Nat.reduceAdd, Nat.reduceSub, List.drop_succ_cons, List.drop_zero])
    | with_reducible first | refine vR_nil ?_ | refine KtR_i (by kernel_rfl) ?_ | refine KrR_i (by kernel_rfl) ?_ | refine vR_skip (by decide) ?_
    | ((with_reducible refine vB_i ?_ ?_) <;> intro _ <;> (first | (exfalso; omega) | (exact absurd trivial ‹¬True›) | (try dsimp only [])))
    | ((with_reducible refine vOps_nil' ?_); refine Kr_i (by kernel_rfl) ?_; generalize hk : plain _ _ = G; simp only [lv, E3, E2, E5, rawX, deadX, SB, List.not_mem_nil, ↓reduceIte, ne_eq, reduceCtorEq, Nat.reduceLT, Nat.reduceEqDiff, Nat.reduceAdd, Nat.reduceMul, Nat.reduceLeDiff, Nat.reduceDiv, Nat.reduceMod, Nat.reduceSub, Nat.reduceBEq] at hk; subst hk)
    | with_reducible refine vSeq_i ?_
    | with_reducible first | refine vRegion_i (by kernel_rfl) ?_ | refine Kv_i ?_
    | ((with_reducible apply vStrK_i); (focus (rfl; done)))
    | ((with_reducible refine imp_i ?_); intro _)
    | with_reducible first | refine Ks_n ?_ | refine Ks_r ?_ | refine Ks_e ?_ | refine Kl_e ?_ | refine Kx_n ?_ | refine Kl_r ?_ | refine vRet_i ?_ | refine vSkip_i ?_ | refine vExit_i ?_ | refine vBlock_i ?_ | refine Ks_p ?_ | refine Kl_p ?_ | refine blk_p ?_ | exact Kb_p | refine vGoto_i ?_ | refine vLabel_i ?_ | refine Ks_g ?_ | refine Kl_g ?_ | refine blk_g ?_ | refine jmp_g ?_ | refine jmp_n ?_ | refine jmp_r ?_ | refine nog_n ?_ | refine nog_r ?_ | refine blk_n ?_ | refine blk_r ?_ | refine blk_e ?_ | refine blk_o (by decide) ?_ | refine cp_t ?_ | refine cp_f ?_
    | ((with_reducible apply vCond_x); (focus (simp only [lv, E1, E2, E5, ET, T, orc_mv, noO_mv, mvB, orc_bx, noO_bx, bxB, orc_sx, noO_sx, sxB, fwd, fwds, inv, mOk, Int.toNat_natCast, Nat.div_one, Nat.mul_one, Int.reduceToNat, SB, List.not_mem_nil, ↓reduceIte, ne_eq, reduceCtorEq, Nat.reduceLT, Nat.reduceEqDiff, Nat.reduceAdd, Nat.reduceMul, Nat.reduceLeDiff, Nat.reduceDiv, Nat.reduceMod, Nat.reduceSub, Nat.reduceBEq]; with_reducible first | exact Eq.refl (bo true) | exact Eq.refl (bo false))))
    | ((with_reducible refine And.intro ?_ ?_); (focus (try omega)))
  all_goals first | omega | (simp only [List.length_append]; omega) | skip
  refine Kf_r ?_
  simp only [Tryd.f53, E4, E3, E2, E5, rawX, deadX, ET, T, SB, List.not_mem_nil, ↓reduceIte, ne_eq, reduceCtorEq, Nat.reduceLT, Nat.reduceEqDiff, Nat.reduceAdd, Nat.reduceMul, Nat.reduceLeDiff, Nat.reduceDiv, Nat.reduceMod, Nat.reduceSub, Nat.reduceBEq, cut_to _ _ h0, cut_from l _ (by omega : 0 ≤ at_ + gone)]
set_option maxRecDepth 10000 in
theorem clone_ok (l : List SV) (h : l.length ≤ 2000000) : CallOk Tryd.prog 54 [sl l] (.p (.one (.sr 0))) [(21, 1, l)] false := by
  refine fn_nil' T_ok (noO_ok _) mixed Tryd.func54 rfl (by kernel_rfl) (lv [[0], [0, 4], [2], [2]]) 21 8 rfl (by simp) rfl (by simp) (fun hl => ?_) ?_
  · subst hl
    simp only [argsG, Nat.zero_add, Nat.reduceAdd]
    repeat' first
      | ((first
          | ((with_reducible refine vR_cons (by decide) ?_); generalize hk : KtR _ _ _ _ _ _ _ _ _ _ = k)
          | ((first
          | with_reducible refine vOps_cons' ?_) <;> generalize hk : Kt _ _ _ _ _ _ _ _ _ = k)) <;> (simp only [Tryd.f54, lv, E1, E2, E5, ET, T, orc_mv, noO_mv, mvB, orc_bx, noO_bx, bxB, orc_sx, noO_sx, sxB, fwd, fwds, inv, mOk, Int.toNat_natCast, Nat.div_one, Nat.mul_one, Int.reduceToNat, SB, List.not_mem_nil, ↓reduceIte, ne_eq, reduceCtorEq, Nat.reduceLT, Nat.reduceEqDiff, Nat.reduceAdd, Nat.reduceMul, Nat.reduceLeDiff, Nat.reduceDiv, Nat.reduceMod, Nat.reduceSub, Nat.reduceBEq]; (try simp (disch := omega) only [wrap_in, Int.toNat_natCast]); subst hk))
      | with_reducible first | refine Kt_p ?_ | refine Kt_i (by kernel_rfl) ?_ | refine Kr_f (by kernel_rfl) ?_
      | (with_reducible refine Kr_t ?_; simp only [List.length_append, List.length_cons, List.length_nil, Nat.reduceAdd, Nat.reduceSub, List.drop_succ_cons, List.drop_zero])
      | with_reducible first | refine vR_nil ?_ | refine KtR_i (by kernel_rfl) ?_ | refine KrR_i (by kernel_rfl) ?_ | refine vR_skip (by decide) ?_
      | ((with_reducible refine vB_i ?_ ?_) <;> intro _ <;> (first | (exfalso; omega) | (exact absurd trivial ‹¬True›) | (try dsimp only [])))
      | ((with_reducible refine vOps_nil' ?_); refine Kr_i (by kernel_rfl) ?_; generalize hk : plain _ _ = G; simp only [lv, E3, E2, E5, rawX, deadX, SB, List.not_mem_nil, ↓reduceIte, ne_eq, reduceCtorEq, Nat.reduceLT, Nat.reduceEqDiff, Nat.reduceAdd, Nat.reduceMul, Nat.reduceLeDiff, Nat.reduceDiv, Nat.reduceMod, Nat.reduceSub, Nat.reduceBEq] at hk; subst hk)
      | with_reducible refine vSeq_i ?_
      | with_reducible first | refine vRegion_i (by kernel_rfl) ?_ | refine Kv_i ?_
      | ((with_reducible apply vStrK_i); (focus (rfl; done)))
      | ((with_reducible refine imp_i ?_); intro _)
      | with_reducible first | refine Ks_n ?_ | refine Ks_r ?_ | refine Ks_e ?_ | refine Kl_e ?_ | refine Kx_n ?_ | refine Kl_r ?_ | refine vRet_i ?_ | refine vSkip_i ?_ | refine vExit_i ?_ | refine vBlock_i ?_ | refine Ks_p ?_ | refine Kl_p ?_ | refine blk_p ?_ | exact Kb_p | refine vGoto_i ?_ | refine vLabel_i ?_ | refine Ks_g ?_ | refine Kl_g ?_ | refine blk_g ?_ | refine jmp_g ?_ | refine jmp_n ?_ | refine jmp_r ?_ | refine nog_n ?_ | refine nog_r ?_ | refine blk_n ?_ | refine blk_r ?_ | refine blk_e ?_ | refine blk_o (by decide) ?_ | refine cp_t ?_ | refine cp_f ?_
      | ((with_reducible apply vCond_x); (focus (simp only [lv, E1, E2, E5, ET, T, orc_mv, noO_mv, mvB, orc_bx, noO_bx, bxB, orc_sx, noO_sx, sxB, fwd, fwds, inv, mOk, Int.toNat_natCast, Nat.div_one, Nat.mul_one, Int.reduceToNat, SB, List.not_mem_nil, ↓reduceIte, ne_eq, reduceCtorEq, Nat.reduceLT, Nat.reduceEqDiff, Nat.reduceAdd, Nat.reduceMul, Nat.reduceLeDiff, Nat.reduceDiv, Nat.reduceMod, Nat.reduceSub, Nat.reduceBEq]; with_reducible first | exact Eq.refl (bo true) | exact Eq.refl (bo false))))
      | ((with_reducible refine And.intro ?_ ?_); (focus (try omega)))
    refine Kf_r ?_
    simp only [Tryd.f54, E4, E3, E2, E5, rawX, deadX, ET, T, SB, List.not_mem_nil, ↓reduceIte, ne_eq, reduceCtorEq, Nat.reduceLT, Nat.reduceEqDiff, Nat.reduceAdd, Nat.reduceMul, Nat.reduceLeDiff, Nat.reduceDiv, Nat.reduceMod, Nat.reduceSub, Nat.reduceBEq]
  · simp only [argsG, Nat.zero_add, Nat.reduceAdd]
    repeat' first
      | ((first
          | ((with_reducible refine vR_cons (by decide) ?_); generalize hk : KtR _ _ _ _ _ _ _ _ _ _ = k)
          | ((first
          | with_reducible refine vOps_cons' ?_) <;> generalize hk : Kt _ _ _ _ _ _ _ _ _ = k)) <;> (simp only [Tryd.f54, lv, E1, E2, E5, ET, T, orc_mv, noO_mv, mvB, orc_bx, noO_bx, bxB, orc_sx, noO_sx, sxB, fwd, fwds, inv, mOk, Int.toNat_natCast, Nat.div_one, Nat.mul_one, Int.reduceToNat, SB, List.not_mem_nil, ↓reduceIte, ne_eq, reduceCtorEq, Nat.reduceLT, Nat.reduceEqDiff, Nat.reduceAdd, Nat.reduceMul, Nat.reduceLeDiff, Nat.reduceDiv, Nat.reduceMod, Nat.reduceSub, Nat.reduceBEq]; (try simp (disch := omega) only [wrap_in, Int.toNat_natCast]); subst hk))
      | with_reducible first | refine Kt_p ?_ | refine Kt_i (by kernel_rfl) ?_ | refine Kr_f (by kernel_rfl) ?_
      | (with_reducible refine Kr_t ?_; simp only [List.length_append, List.length_cons, List.length_nil, Nat.reduceAdd, Nat.reduceSub, List.drop_succ_cons, List.drop_zero])
      | with_reducible first | refine vR_nil ?_ | refine KtR_i (by kernel_rfl) ?_ | refine KrR_i (by kernel_rfl) ?_ | refine vR_skip (by decide) ?_
      | ((with_reducible refine vB_i ?_ ?_) <;> intro _ <;> (first | (exfalso; omega) | (exact absurd trivial ‹¬True›) | (try dsimp only [])))
      | ((with_reducible refine vOps_nil' ?_); refine Kr_i (by kernel_rfl) ?_; generalize hk : plain _ _ = G; simp only [lv, E3, E2, E5, rawX, deadX, SB, List.not_mem_nil, ↓reduceIte, ne_eq, reduceCtorEq, Nat.reduceLT, Nat.reduceEqDiff, Nat.reduceAdd, Nat.reduceMul, Nat.reduceLeDiff, Nat.reduceDiv, Nat.reduceMod, Nat.reduceSub, Nat.reduceBEq] at hk; subst hk)
      | with_reducible refine vSeq_i ?_
      | with_reducible first | refine vRegion_i (by kernel_rfl) ?_ | refine Kv_i ?_
      | ((with_reducible apply vStrK_i); (focus (rfl; done)))
      | ((with_reducible refine imp_i ?_); intro _)
      | with_reducible first | refine Ks_n ?_ | refine Ks_r ?_ | refine Ks_e ?_ | refine Kl_e ?_ | refine Kx_n ?_ | refine Kl_r ?_ | refine vRet_i ?_ | refine vSkip_i ?_ | refine vExit_i ?_ | refine vBlock_i ?_ | refine Ks_p ?_ | refine Kl_p ?_ | refine blk_p ?_ | exact Kb_p | refine vGoto_i ?_ | refine vLabel_i ?_ | refine Ks_g ?_ | refine Kl_g ?_ | refine blk_g ?_ | refine jmp_g ?_ | refine jmp_n ?_ | refine jmp_r ?_ | refine nog_n ?_ | refine nog_r ?_ | refine blk_n ?_ | refine blk_r ?_ | refine blk_e ?_ | refine blk_o (by decide) ?_ | refine cp_t ?_ | refine cp_f ?_
      | ((with_reducible apply vCond_x); (focus (simp only [lv, E1, E2, E5, ET, T, orc_mv, noO_mv, mvB, orc_bx, noO_bx, bxB, orc_sx, noO_sx, sxB, fwd, fwds, inv, mOk, Int.toNat_natCast, Nat.div_one, Nat.mul_one, Int.reduceToNat, SB, List.not_mem_nil, ↓reduceIte, ne_eq, reduceCtorEq, Nat.reduceLT, Nat.reduceEqDiff, Nat.reduceAdd, Nat.reduceMul, Nat.reduceLeDiff, Nat.reduceDiv, Nat.reduceMod, Nat.reduceSub, Nat.reduceBEq]; with_reducible first | exact Eq.refl (bo true) | exact Eq.refl (bo false))))
      | ((with_reducible refine And.intro ?_ ?_); (focus (try omega)))
    all_goals first | omega | skip
    refine Kf_r ?_
    simp only [Tryd.f54, E4, E3, E2, E5, rawX, deadX, ET, T, SB, List.not_mem_nil, ↓reduceIte, ne_eq, reduceCtorEq, Nat.reduceLT, Nat.reduceEqDiff, Nat.reduceAdd, Nat.reduceMul, Nat.reduceLeDiff, Nat.reduceDiv, Nat.reduceMod, Nat.reduceSub, Nat.reduceBEq]
end Go.Proofs.YtdpflafjfkooeaaDoorG
namespace Go.Proofs.YtdpflafjfkooeaaDoorG
open Go Go.RowKit Go.Proofs
set_option linter.unusedSimpArgs false
/-- The bytes of a number; 0: none. -/
def szU (n : Int) : Int := if n < 0 ∨ n > 1114111 ∨ (55296 ≤ n ∧ n ≤ 57343) then 0 else if n < 128 then 1 else if n < 2048 then 2 else if n < 65536 then 3 else 4
set_option maxRecDepth 10000 in
theorem size_ok (n : Int) (hn : R32 n) : CallOk Tryd.prog 50 [i32 n] (i64 (szU n)) [] true := by
  refine fn_ok' T_ok (noO_ok _) mixed Tryd.func50 rfl (by kernel_rfl) (lv [[0], [0, 3], [0, 3], [0, 3], [2], [0, 14], [2], [0, 17], [2], [20], [2], [2]]) 23 rfl (by simp) rfl (by simp [X.all, PX.all, TV.rawR, SV.isRaw]) ?_
  simp only [argsG, Nat.zero_add, Nat.reduceAdd]
  repeat' first
    | ((first
        | ((with_reducible refine vR_cons (by decide) ?_); generalize hk : KtR _ _ _ _ _ _ _ _ _ _ = k)
        | ((first
        | with_reducible refine vOps_cons' ?_) <;> generalize hk : Kt _ _ _ _ _ _ _ _ _ = k)) <;> (simp only [Tryd.f50, lv, E1, E2, E5, ET, T, orc_mv, noO_mv, mvB, orc_bx, noO_bx, bxB, orc_sx, noO_sx, sxB, fwd, fwds, inv, mOk, Int.toNat_natCast, Nat.div_one, Nat.mul_one, Int.reduceToNat, SB, List.not_mem_nil, ↓reduceIte, ne_eq, reduceCtorEq, Nat.reduceLT, Nat.reduceEqDiff, Nat.reduceAdd, Nat.reduceMul, Nat.reduceLeDiff, Nat.reduceDiv, Nat.reduceMod, Nat.reduceSub, Nat.reduceBEq]; (try simp (disch := omega) only [wrap_in, Int.toNat_natCast]); subst hk))
    | with_reducible first | refine Kt_p ?_ | refine Kt_i (by kernel_rfl) ?_ | refine Kr_f (by kernel_rfl) ?_
    | (with_reducible refine Kr_t ?_; simp only [List.length_append, List.length_cons, List.length_nil, Nat.reduceAdd, Nat.reduceSub, List.drop_succ_cons, List.drop_zero])
    | with_reducible first | refine vR_nil ?_ | refine KtR_i (by kernel_rfl) ?_ | refine KrR_i (by kernel_rfl) ?_ | refine vR_skip (by decide) ?_
    | ((with_reducible refine vB_i ?_ ?_) <;> intro _ <;> (first | (exfalso; omega) | (exact absurd trivial ‹¬True›) | (try dsimp only [])))
    | ((with_reducible refine vOps_nil' ?_); refine Kr_i (by kernel_rfl) ?_; generalize hk : plain _ _ = G; simp only [lv, E3, E2, E5, rawX, deadX, SB, List.not_mem_nil, ↓reduceIte, ne_eq, reduceCtorEq, Nat.reduceLT, Nat.reduceEqDiff, Nat.reduceAdd, Nat.reduceMul, Nat.reduceLeDiff, Nat.reduceDiv, Nat.reduceMod, Nat.reduceSub, Nat.reduceBEq] at hk; subst hk)
    | with_reducible refine vSeq_i ?_
    | with_reducible first | refine vRegion_i (by kernel_rfl) ?_ | refine Kv_i ?_
    | ((with_reducible apply vStrK_i); (focus (rfl; done)))
    | ((with_reducible refine imp_i ?_); intro _)
    | with_reducible first | refine Ks_n ?_ | refine Ks_r ?_ | refine Ks_e ?_ | refine Kl_e ?_ | refine Kx_n ?_ | refine Kl_r ?_ | refine vRet_i ?_ | refine vSkip_i ?_ | refine vExit_i ?_ | refine vBlock_i ?_ | refine Ks_p ?_ | refine Kl_p ?_ | refine blk_p ?_ | exact Kb_p | refine vGoto_i ?_ | refine vLabel_i ?_ | refine Ks_g ?_ | refine Kl_g ?_ | refine blk_g ?_ | refine jmp_g ?_ | refine jmp_n ?_ | refine jmp_r ?_ | refine nog_n ?_ | refine nog_r ?_ | refine blk_n ?_ | refine blk_r ?_ | refine blk_e ?_ | refine blk_o (by decide) ?_ | refine cp_t ?_ | refine cp_f ?_
    | ((with_reducible apply vCond_x); (focus (simp only [lv, E1, E2, E5, ET, T, orc_mv, noO_mv, mvB, orc_bx, noO_bx, bxB, orc_sx, noO_sx, sxB, fwd, fwds, inv, mOk, Int.toNat_natCast, Nat.div_one, Nat.mul_one, Int.reduceToNat, SB, List.not_mem_nil, ↓reduceIte, ne_eq, reduceCtorEq, Nat.reduceLT, Nat.reduceEqDiff, Nat.reduceAdd, Nat.reduceMul, Nat.reduceLeDiff, Nat.reduceDiv, Nat.reduceMod, Nat.reduceSub, Nat.reduceBEq]; with_reducible first | exact Eq.refl (bo true) | exact Eq.refl (bo false))))
    | ((with_reducible refine And.intro ?_ ?_); (focus (try omega)))
  all_goals refine Kf_r ?_
  all_goals simp only [Tryd.f50, E4, E3, E2, E5, rawX, deadX, ET, T, SB, List.not_mem_nil, ↓reduceIte, ne_eq, reduceCtorEq, Nat.reduceLT, Nat.reduceEqDiff, Nat.reduceAdd, Nat.reduceMul, Nat.reduceLeDiff, Nat.reduceDiv, Nat.reduceMod, Nat.reduceSub, Nat.reduceBEq]
  all_goals (unfold szU; (repeat' split) <;> first | trivial | (exfalso; omega))
end Go.Proofs.YtdpflafjfkooeaaDoorG
