/- J3: H1, H2, U24, L24b joined. -/
import Derived.Test.YtdpflafjfkooeaaDoorG15
import Derived.Test.YtdpflafjfkooeaaDoorRows
import Derived.Deep.Slices
import Derived.WideShapes
import Derived.Below
import Derived.Test.YtdpflafjfkooeaaDoorA19
import Derived.Test.YtdpflafjfkooeaaDoorJ4
/- H1: what came in, by value. -/
namespace Go.Proofs.YtdpflafjfkooeaaDoorG
open Go Go.RowKit Go.Proofs.YtdpflafjfkooeaaDoor
set_option linter.unusedVariables false
set_option linter.unusedSimpArgs false

/-- Cells that may be of a type; n bounds the lengths of slices and strings. -/
inductive Typ (T : Tab) (n : Nat) : Nat → List SV → Prop
  | int (t k s b z m) (h : T t = some ⟨.int k, s, b, z⟩) (hw : (Lit.int k m).wf = true) : Typ T n t [.raw (.int k m)]
  | bool (t s b z x) (h : T t = some ⟨.bool, s, b, z⟩) : Typ T n t [.raw (.bool x)]
  | str (t s b z) (x : ByteArray) (h : T t = some ⟨.str, s, b, z⟩) (hx : x.size ≤ n) : Typ T n t [.raw (.string x)]
  | sl (t e s b z ei) (xss : List (List SV)) (h : T t = some ⟨.slice e, s, b, z⟩) (hi : T e = some ei) (hl : xss.length ≤ n) (hx : ∀ xs ∈ xss, Typ T n e xs) (hs : ∀ xs ∈ xss, xs.length = ei.size) : Typ T n t [.sl ei.size xss.flatten]
  | struct (t fs s b z) (xss : List (List SV)) (h : T t = some ⟨.struct fs, s, b, z⟩) (hl : xss.length = fs.length) (hx : ∀ (i : Nat) f xs, fs[i]? = some f → xss[i]? = some xs → Typ T n f.1 xs) : Typ T n t xss.flatten
  | arr (t m e s b z) (xss : List (List SV)) (h : T t = some ⟨.arr m e, s, b, z⟩) (hl : xss.length = m) (hx : ∀ xs ∈ xss, Typ T n e xs) : Typ T n t xss.flatten
theorem Typ.mono {T n n' t xs} (hn : n ≤ n') (h : Typ T n t xs) : Typ T n' t xs := by
  induction h with
  | int t k s b z m h hw => exact .int t k s b z m h hw
  | bool t s b z x h => exact .bool t s b z x h
  | str t s b z x h hx => exact .str t s b z x h (Nat.le_trans hx hn)
  | sl t e s b z ei xss h hi hl hx hs ih => exact .sl t e s b z ei xss h hi (Nat.le_trans hl hn) ih hs
  | struct t fs s b z xss h hl hx ih => exact .struct t fs s b z xss h hl ih
  | arr t m e s b z xss h hl hx ih => exact .arr t m e s b z xss h hl ih

/-! ### which types are read -/
def layB (T : Tab) : Nat → List (Nat × Nat) → Option Nat
  | off, [] => some off
  | off, (ft, o) :: r => match T ft with
    | some i => if o = off then layB T (off + i.size) r else none
    | none => none
def szB (T : Tab) (e n s : Nat) : Bool := match T e with | some ei => decide (s = n * ei.size) | none => false
def posB (T : Tab) (e : Nat) : Bool := match T e with | some ei => decide (0 < ei.size) | none => false
def okT (T : Tab) : Nat → Nat → Bool
  | 0, _ => false
  | m + 1, t => match T t with
    | some ⟨.int _, _, _, _⟩ => true
    | some ⟨.bool, _, _, _⟩ => true
    | some ⟨.str, _, _, _⟩ => true
    | some ⟨.slice e, _, _, _⟩ => posB T e && okT T m e
    | some ⟨.struct fs, s, _, _⟩ => decide (layB T 0 fs = some s) && fs.all fun f => okT T m f.1
    | some ⟨.arr n e, s, _, _⟩ => szB T e n s && okT T m e
    | _ => false

/-! ### lists of rows of one length -/
theorem flat_get {α : Type} {e : Nat} (he : 0 < e) : ∀ {l : List (List α)}, (∀ x ∈ l, x.length = e) → ∀ j, l.flatten[j]? = (l[j / e]?).bind fun x => x[j % e]?
  | [], _, j => by simp
  | x :: l, h, j => by
    have hx := h x (by simp)
    rw [List.flatten_cons]
    by_cases hj : j < e
    · rw [List.getElem?_append_left (by omega), Nat.div_eq_of_lt hj, Nat.mod_eq_of_lt hj]; rfl
    · rw [List.getElem?_append_right (by omega), hx, flat_get he (fun y hy => h y (by simp [hy])) (j - e)]
      have e1 : j / e = (j - e) / e + 1 := by rw [Nat.div_eq_sub_div he (by omega)]
      have e2 : j % e = (j - e) % e := by rw [Nat.mod_eq_sub_mod (by omega)]
      rw [e1, e2]; rfl
theorem flat_len {α : Type} {e : Nat} : ∀ {l : List (List α)}, (∀ x ∈ l, x.length = e) → l.flatten.length = l.length * e
  | [], _ => by simp
  | x :: l, h => by rw [List.flatten_cons, List.length_append, h x (by simp), flat_len fun y hy => h y (by simp [hy]), List.length_cons, Nat.succ_mul]; omega
theorem all2_flat {α β : Type} {R : α → β → Prop} : ∀ {us : List (List α)} {xs : List (List β)}, All2 (All2 R) us xs → All2 R us.flatten xs.flatten
  | [], [], _ => .nil
  | [], x :: xs, h => by have := h.1; simp at this
  | u :: us, [], h => by have := h.1; simp at this
  | u :: us, x :: xs, h => by simp only [List.flatten_cons]; exact h.head.append (all2_flat h.tail)

theorem one_le {H : Type} (d : DataW H) : 1 ≤ Rows.uptoBulk d := by
  cases d with
  | lit l => cases l <;> simp [Rows.uptoBulk]
  | nil => simp [Rows.uptoBulk]
  | ptr d => simp [Rows.uptoBulk]
  | slice elems spare => simp [Rows.uptoBulk]
  | agg parts => simp [Rows.uptoBulk]
  | iface t d => simp [Rows.uptoBulk]
  | map entries => simp [Rows.uptoBulk]
  | held h => simp [Rows.uptoBulk]
theorem part_le {H : Type} {d : DataW H} {l : List (DataW H)} (h : d ∈ l) : Rows.uptoBulk d ≤ Rows.uptoBulkAll l := by
  induction l with
  | nil => cases h
  | cons x r ih =>
    simp only [Rows.uptoBulkAll]
    cases List.mem_cons.1 h with
    | inl e => subst e; omega
    | inr e => have := ih e; omega
theorem length_le {H : Type} (l : List (DataW H)) : l.length ≤ Rows.uptoBulkAll l := by
  induction l with
  | nil => simp [Rows.uptoBulkAll]
  | cons x r ih => have := one_le x; simp only [Rows.uptoBulkAll, List.length_cons]; omega

section
variable {H : Type} {enc : TypeId × Value → H} {P : Program} {T : Tab} (hT : Tok P T) {W : World} {base : Nat} {sp : Nat → Bool} {held : Bool}
/-- All that lies does not change. -/
def oI (W : World) (b : Nat) : Tag := if b < W.heap.size then .imm else .other
theorem cellsOf_T {P : Program} {t i} (h : TIok P t i) : P.cellsOf t = i.size := by
  obtain ⟨j, z, h1, h2, _⟩ := h.info'
  simp [Program.cellsOf, h1, h2]
theorem cells_at {W : World} {base : Nat} {a : Addr} {n : Nat} {cs : List Value} (h : W.cells? base a n = some cs) : cs.length = n ∧ ∀ j u, cs[j]? = some u → W.cell? (a.add j) = some u := by
  unfold World.cells? at h
  split at h
  · have key : ∀ (l : List Nat) (cs : List Value), l.mapM (fun i => W.cell? (a.add i)) = some cs → cs.length = l.length ∧ ∀ (j : Nat) i u, l[j]? = some i → cs[j]? = some u → W.cell? (a.add i) = some u := by
      intro l
      induction l with
      | nil => intro cs h; simp at h; subst h; exact ⟨rfl, fun j i u h1 => by simp at h1⟩
      | cons i l ih =>
        intro cs h
        rw [List.mapM_cons] at h
        obtain ⟨c, h1, h2⟩ := Option.bind_eq_some_iff.1 h
        obtain ⟨r, h3, h4⟩ := Option.bind_eq_some_iff.1 h2
        cases h4
        obtain ⟨e1, e2⟩ := ih r h3
        refine ⟨by simp [e1], fun j i' u q1 q2 => ?_⟩
        cases j with
        | zero => simp at q1 q2; subst q1; subst q2; exact h1
        | succ j => exact e2 j i' u (by simpa using q1) (by simpa using q2)
    obtain ⟨e1, e2⟩ := key _ _ h
    refine ⟨by simpa using e1, fun j u hj => ?_⟩
    have hlt : j < n := by
      have := (List.getElem?_eq_some_iff.1 hj).1
      rw [e1] at this; simpa using this
    exact e2 j j u (List.getElem?_range hlt) hj
  · cases h
theorem spot_of {W : World} {a : Addr} {u : Value} (h : W.cell? a = some u) : a = ⟨a.block, a.off, none⟩ ∧ a.block < W.heap.size := by
  unfold World.cell? at h
  split at h
  · rename_i c _ _ hb
    split at h
    · cases h
    · rename_i hs
      refine ⟨?_, (Array.getElem?_eq_some_iff.1 hb).1⟩
      cases a with
      | mk b o s => cases s <;> simp_all
  · cases h
include hT
/-- The parts of a struct or an array, one behind the other. -/
theorem trod_parts {m : Nat} (ih : ∀ t, okT T m t = true → ∀ fuel cs d ps, DataW.trod enc P W base sp held fuel t cs = some (d, ps) → ∃ xs, All2 (SVR W (oI W)) cs xs ∧ Typ T (Rows.uptoBulk d) t xs) {fuel : Nat} {cs : List Value} :
    ∀ (L : List (Nat × Nat)) (off tot : Nat) (ys : List (DataW H × List MemPlace)), layB T off L = some tot → (L.all fun f => okT T m f.1) = true → L.mapM (fun p => DataW.trod enc P W base sp held fuel p.1 ((cs.drop p.2).take (P.cellsOf p.1))) = some ys → cs.length = tot → off ≤ tot →
      ∃ xss : List (List SV), xss.length = L.length ∧ All2 (SVR W (oI W)) (cs.drop off) xss.flatten ∧ ∀ (i : Nat) f xs, L[i]? = some f → xss[i]? = some xs → Typ T (Rows.uptoBulkAll (ys.map (·.1))) f.1 xs
  | [], off, tot, ys, hl, _, _, hc, _ => by
    simp only [layB, Option.some.injEq] at hl
    subst hl
    rw [List.drop_of_length_le (by omega)]
    exact ⟨[], rfl, .nil, fun i f xs h => by simp at h⟩
  | (ft, o) :: L, off, tot, ys, hl, hok, hm, hc, hle => by
    simp only [layB] at hl
    split at hl
    case h_2 => cases hl
    rename_i ti hti
    split at hl
    case isFalse => cases hl
    rename_i ho
    subst ho
    simp only [List.all_cons, Bool.and_eq_true] at hok
    rw [List.mapM_cons] at hm
    obtain ⟨y, h1, h2⟩ := Option.bind_eq_some_iff.1 hm
    obtain ⟨r, h3, h4⟩ := Option.bind_eq_some_iff.1 h2
    cases h4
    obtain ⟨d, p⟩ := y
    obtain ⟨xs, hx1, hx2⟩ := ih ft hok.1 fuel _ d p h1
    have hge : ∀ (L : List (Nat × Nat)) (off tot : Nat), layB T off L = some tot → off ≤ tot := by
      intro L
      induction L with
      | nil => intro off tot h; simp only [layB, Option.some.injEq] at h; omega
      | cons q L ihL =>
        intro off tot h
        obtain ⟨q1, q2⟩ := q
        simp only [layB] at h
        split at h
        · split at h
          · have := ihL _ _ h; omega
          · cases h
        · cases h
    have hle2 := hge L _ _ hl
    obtain ⟨xss, e1, e2, e3⟩ := trod_parts ih L (o + ti.size) tot r hl hok.2 h3 hc hle2
    rw [cellsOf_T (hT ft ti hti)] at hx1
    refine ⟨xs :: xss, by simp [e1], ?_, fun i f ys h1 h2 => ?_⟩
    · have : cs.drop o = (cs.drop o).take ti.size ++ cs.drop (o + ti.size) := by rw [← List.drop_drop, List.take_append_drop]
      rw [this, List.flatten_cons]
      exact hx1.append e2
    · cases i with
      | zero => simp at h1 h2; subst h1; subst h2; exact hx2.mono (by simp [Rows.uptoBulkAll])
      | succ i => exact (e3 i f ys (by simpa using h1) (by simpa using h2)).mono (by simp [Rows.uptoBulkAll])
theorem trod_typ : ∀ (m t : Nat), okT T m t = true → ∀ fuel cs d ps, DataW.trod enc P W base sp held fuel t cs = some (d, ps) → ∃ xs, All2 (SVR W (oI W)) cs xs ∧ Typ T (Rows.uptoBulk d) t xs
  | 0, t, h => by simp [okT] at h
  | m + 1, t, hok => by
    intro fuel cs d ps h
    cases fuel with
    | zero => simp [DataW.trod] at h
    | succ fuel =>
      simp only [okT] at hok
      split at hok
      · rename_i k s b z ht
        obtain ⟨dd, hu, he⟩ := (hT t _ ht).und'
        cases dd <;> simp [dK] at he
        subst he
        unfold DataW.trod at h
        rw [hu] at h
        split at h <;> simp_all
        obtain ⟨⟨rfl, hw⟩, rfl, rfl⟩ := h
        exact ⟨_, .cons (.raw _ rfl) .nil, .int t _ s b z _ ht hw⟩
      · rename_i s b z ht
        obtain ⟨dd, hu, he⟩ := (hT t _ ht).und'
        cases dd <;> simp [dK] at he
        unfold DataW.trod at h
        rw [hu] at h
        split at h <;> simp_all
        obtain ⟨rfl, rfl⟩ := h
        exact ⟨_, .cons (.raw _ rfl) .nil, .bool t s b z _ ht⟩
      · rename_i s b z ht
        have hu := (hT t _ ht).str rfl
        unfold DataW.trod at h
        rw [hu] at h
        split at h <;> simp_all
        obtain ⟨hsz, rfl, rfl⟩ := h
        exact ⟨_, .cons (.raw _ rfl) .nil, .str t s b z _ ht (by simp [Rows.uptoBulk])⟩
      · rename_i e s b z ht
        simp only [Bool.and_eq_true] at hok
        have hu := (hT t _ ht).slice rfl
        obtain ⟨ei, hei⟩ : ∃ ei, T e = some ei := by
          have := hok.1; unfold posB at this; split at this
          · rename_i ei h; exact ⟨ei, h⟩
          · cases this
        have he0 : 0 < ei.size := by have := hok.1; unfold posB at this; rw [hei] at this; simpa using this
        rcases Deep.open_slice hu h with ⟨rfl, hx⟩ | ⟨a, len, cap, mm, n, D, Pl, rfl, hb, hl, hm, hmm, hx, hel⟩
        · cases hx
          exact ⟨[.sl ei.size []], .cons (.nil _ _ _ fun _ => rfl) .nil, .sl t e s b z ei [] ht hei (by simp) (by simp) (by simp)⟩
        · cases hx
          have hlm : len ≤ mm := by rw [hmm]; split <;> omega
          have hex : ∀ i, ∃ r : List Value × List SV, i < len → W.cells? base (a.add (i * P.cellsOf e)) (P.cellsOf e) = some r.1 ∧ All2 (SVR W (oI W)) r.1 r.2 ∧ Typ T (Rows.uptoBulk (D i)) e r.2 := fun i => by
            by_cases hi : i < len
            · obtain ⟨cs', h1, h2⟩ := hel i (by omega)
              obtain ⟨xs, h3, h4⟩ := trod_typ m e hok.2 n cs' _ _ h2
              exact ⟨(cs', xs), fun _ => ⟨h1, h3, h4⟩⟩
            · exact ⟨([], []), fun h => absurd h hi⟩
          obtain ⟨F, hF⟩ := Classical.axiomOfChoice hex
          have hsz := cellsOf_T (hT e ei hei)
          rw [hsz] at hF
          have hF1 : ∀ i, i < len → (F i).1.length = ei.size ∧ (F i).2.length = ei.size := fun i hi => by
            obtain ⟨h1, h2, h3⟩ := hF i hi
            have := (cells_at h1).1
            exact ⟨this, by rw [← h2.1]; exact this⟩
          have hbulk : Rows.uptoBulk (DataW.slice ((List.range len).map D) ((List.range (mm - len)).map fun j => D (len + j))) = Rows.uptoBulkAll ((List.range len).map D) + Rows.uptoBulkAll ((List.range (mm - len)).map fun j => D (len + j)) + 1 := by simp [Rows.uptoBulk]
          have hmem : ∀ xs ∈ (List.range len).map fun i => (F i).2, ∃ i, i < len ∧ xs = (F i).2 := fun xs hxs => by
            obtain ⟨i, hi, rfl⟩ := List.mem_map.1 hxs
            exact ⟨i, List.mem_range.1 hi, rfl⟩
          have htyp : Typ T (Rows.uptoBulk (DataW.slice ((List.range len).map D) ((List.range (mm - len)).map fun j => D (len + j)))) t [.sl ei.size ((List.range len).map fun i => (F i).2).flatten] := by
            refine .sl t e s b z ei _ ht hei ?_ (fun xs hxs => ?_) fun xs hxs => ?_
            · have := length_le ((List.range len).map D)
              simp only [List.length_map, List.length_range] at this ⊢
              rw [hbulk]; omega
            · obtain ⟨i, hi, rfl⟩ := hmem xs hxs
              refine (hF i hi).2.2.mono ?_
              have := part_le (d := D i) (l := (List.range len).map D) (List.mem_map.2 ⟨i, List.mem_range.2 hi, rfl⟩)
              rw [hbulk]; omega
            · obtain ⟨i, hi, rfl⟩ := hmem xs hxs
              exact (hF1 i hi).2
          refine ⟨_, .cons ?_ .nil, htyp⟩
          by_cases h0 : len = 0
          · subst h0
            exact .nil _ _ _ fun h => by cases h
          · have hc0 := cells_at (hF 0 (by omega)).1
            have hl0 := (hF1 0 (by omega)).1
            obtain ⟨u0, hu0⟩ : ∃ u, (F 0).1[0]? = some u := ⟨(F 0).1[0]'(by omega), List.getElem?_eq_getElem (by omega)⟩
            obtain ⟨hsp, hlt⟩ := spot_of (hc0.2 0 u0 hu0)
            simp only [Nat.zero_mul, Addr.add, if_true] at hsp hlt
            have hrows : ∀ x ∈ (List.range len).map fun i => (F i).1, x.length = ei.size := fun x hx => by
              obtain ⟨i, hi, rfl⟩ := List.mem_map.1 hx
              exact (hF1 i (List.mem_range.1 hi)).1
            have hfl : ((List.range len).map fun i => (F i).1).flatten.length = len * ei.size := by rw [flat_len hrows]; simp
            have ha2 : All2 (SVR W (oI W)) ((List.range len).map fun i => (F i).1).flatten ((List.range len).map fun i => (F i).2).flatten := by
              refine all2_flat ⟨by simp, fun j us xs h1 h2 => ?_⟩
              rw [List.getElem?_map] at h1 h2
              cases hj : (List.range len)[j]? with
              | none => simp [hj] at h1
              | some i =>
                simp only [hj, Option.map_some, Option.some.injEq] at h1 h2
                subst h1; subst h2
                exact (hF i (List.mem_range.1 (List.mem_of_getElem? hj))).2.1
            rw [hsp]
            refine .sl a.block a.off len cap ei.size _ _ (by simp [oI, hlt]) he0 (by omega) (by rw [← ha2.1, hfl]) hl ha2.1 (fun j u hj => ?_) ha2.2
            rw [flat_get he0 hrows, List.getElem?_map] at hj
            cases hq : (List.range len)[j / ei.size]? with
            | none => simp [hq] at hj
            | some i =>
              have hi : i < len := List.mem_range.1 (List.mem_of_getElem? hq)
              have hiq : i = j / ei.size := by
                have hlt := (List.getElem?_eq_some_iff.1 hq).1
                simp only [List.length_range] at hlt
                rw [List.getElem?_range hlt] at hq
                injection hq with hq
                exact hq.symm
              simp only [hq, Option.map_some, Option.bind_some] at hj
              have := (cells_at (hF i hi).1).2 _ u hj
              have e1 : (a.add (i * ei.size)).add (j % ei.size) = ⟨a.block, a.off + j, none⟩ := by
                rw [hsp, Addr.add_lit, Addr.add_lit, hiq]
                have := Nat.div_add_mod j ei.size
                have e3 : a.off + j / ei.size * ei.size + j % ei.size = a.off + j := by rw [Nat.mul_comm (j / ei.size)]; omega
                simp only [e3]
              rw [e1] at this
              exact this
      · rename_i fs s b z ht
        simp only [Bool.and_eq_true, decide_eq_true_eq] at hok
        obtain ⟨dd, hu, he⟩ := (hT t _ ht).und'
        cases dd <;> simp [dK] at he
        rename_i fl
        have hstep : DataW.trod enc P W base sp held (fuel + 1) t cs = if cs.length = P.cellsOf t then (fl.toList.mapM fun f => DataW.trod enc P W base sp held fuel f.type ((cs.drop f.offset).take (P.cellsOf f.type))).map fun xs => (.agg (xs.map (·.1)), xs.flatMap (·.2)) else none := by
          simp only [DataW.trod, hu]
        rw [hstep] at h
        split at h
        case isFalse => cases h
        rename_i hlen
        obtain ⟨ys, h1, h2⟩ := Option.map_eq_some_iff.1 h
        cases h2
        have h1' : (fs.mapM fun p => DataW.trod enc P W base sp held fuel p.1 ((cs.drop p.2).take (P.cellsOf p.1))) = some ys := by
          rw [← he]
          have key : ∀ l : List Go.Field, (l.map fun f => (f.type, f.offset)).mapM (fun p : Nat × Nat => DataW.trod enc P W base sp held fuel p.1 ((cs.drop p.2).take (P.cellsOf p.1))) = l.mapM fun f => DataW.trod enc P W base sp held fuel f.type ((cs.drop f.offset).take (P.cellsOf f.type)) := by
            intro l
            induction l with
            | nil => rfl
            | cons f l ih => rw [List.map_cons, List.mapM_cons, List.mapM_cons, ih]
          rw [key]; exact h1
        rw [cellsOf_T (hT t _ ht)] at hlen
        obtain ⟨xss, e1, e2, e3⟩ := trod_parts hT (fun t h => trod_typ m t h) fs 0 s ys hok.1 (by simpa using hok.2) h1' hlen (Nat.zero_le _)
        refine ⟨xss.flatten, by simpa using e2, .struct t fs s b z xss ht e1 fun i f xs q1 q2 => (e3 i f xs q1 q2).mono (by simp [Rows.uptoBulk])⟩
      · rename_i n e s b z ht
        simp only [Bool.and_eq_true] at hok
        have hu := (hT t _ ht).arr rfl
        obtain ⟨ei, hei⟩ : ∃ ei, T e = some ei := by
          have := hok.1; unfold szB at this; split at this
          · rename_i ei h; exact ⟨ei, h⟩
          · cases this
        have hsn : s = n * ei.size := by have := hok.1; unfold szB at this; rw [hei] at this; simpa using this
        have hstep : DataW.trod enc P W base sp held (fuel + 1) t cs = if cs.length = P.cellsOf t then ((List.range n).mapM fun i => DataW.trod enc P W base sp held fuel e ((cs.drop (i * P.cellsOf e)).take (P.cellsOf e))).map fun xs => (.agg (xs.map (·.1)), xs.flatMap (·.2)) else none := by
          simp only [DataW.trod, hu]
        rw [hstep] at h
        split at h
        case isFalse => cases h
        rename_i hlen
        obtain ⟨ys, h1, h2⟩ := Option.map_eq_some_iff.1 h
        cases h2
        rw [cellsOf_T (hT t _ ht)] at hlen
        have h1' : (((List.range n).map fun i => (e, i * ei.size)).mapM fun p => DataW.trod enc P W base sp held fuel p.1 ((cs.drop p.2).take (P.cellsOf p.1))) = some ys := by
          have key : ∀ l : List Nat, (l.map fun i => (e, i * ei.size)).mapM (fun p : Nat × Nat => DataW.trod enc P W base sp held fuel p.1 ((cs.drop p.2).take (P.cellsOf p.1))) = l.mapM fun i => DataW.trod enc P W base sp held fuel e ((cs.drop (i * P.cellsOf e)).take (P.cellsOf e)) := by
            intro l
            induction l with
            | nil => rfl
            | cons i l ih => rw [List.map_cons, List.mapM_cons, List.mapM_cons, ih]; simp only [cellsOf_T (hT e ei hei)]
          rw [key]; exact h1
        have hlay : ∀ k off, layB T (off * ei.size) ((List.range' off k).map fun i => (e, i * ei.size)) = some ((off + k) * ei.size) := by
          intro k
          induction k with
          | zero => intro off; simp [layB]
          | succ k ih =>
            intro off
            rw [List.range'_succ, List.map_cons]
            simp only [layB, hei, if_true]
            rw [show off * ei.size + ei.size = (off + 1) * ei.size from (Nat.succ_mul off ei.size).symm, ih (off + 1)]
            congr 2; omega
        obtain ⟨xss, e1, e2, e3⟩ := trod_parts hT (fun t h => trod_typ m t h) ((List.range n).map fun i => (e, i * ei.size)) 0 s ys (by have := hlay n 0; rw [Nat.zero_mul, Nat.zero_add, ← List.range_eq_range'] at this; rw [this, hsn]) (by simp [hok.2]) h1' hlen (Nat.zero_le _)
        have e1' : xss.length = n := by simpa using e1
        refine ⟨xss.flatten, by simpa using e2, .arr t n e s b z xss ht e1' fun xs hxs => ?_⟩
        obtain ⟨i, hi⟩ := List.mem_iff_getElem?.1 hxs
        have hlt : i < n := by have := (List.getElem?_eq_some_iff.1 hi).1; omega
        exact (e3 i (e, i * ei.size) xs (by simp [hlt]) hi).mono (by simp [Rows.uptoBulk])
      · cases hok
end
end Go.Proofs.YtdpflafjfkooeaaDoorG

/- H2: what came in, by value: from types to numbers, lists and structs. -/
namespace Go.Proofs.YtdpflafjfkooeaaDoorG
open Go Go.RowKit Go.Proofs.YtdpflafjfkooeaaDoor
set_option linter.unusedVariables false
set_option linter.unusedSimpArgs false

theorem Typ.int' {T n t xs k s b z} (h : Typ T n t xs) (ht : T t = some ⟨.int k, s, b, z⟩) : ∃ m, xs = [.raw (.int k m)] ∧ k.min ≤ m ∧ m ≤ k.max := by
  cases h with
  | int _ k' _ _ _ m h hw =>
    rw [ht] at h
    simp only [Option.some.injEq, TI.mk.injEq, TK.int.injEq] at h
    obtain ⟨rfl, _⟩ := h
    exact ⟨m, rfl, by simpa [Lit.wf] using hw⟩
  | _ => simp_all
theorem Typ.bool' {T n t xs s b z} (h : Typ T n t xs) (ht : T t = some ⟨.bool, s, b, z⟩) : ∃ x, xs = [.raw (.bool x)] := by
  cases h <;> simp_all
theorem Typ.str' {T n t xs s b z} (h : Typ T n t xs) (ht : T t = some ⟨.str, s, b, z⟩) : ∃ x : ByteArray, xs = [.raw (.string x)] ∧ x.size ≤ n := by
  cases h <;> simp_all
theorem Typ.sl' {T n t xs e s b z ei} (h : Typ T n t xs) (ht : T t = some ⟨.slice e, s, b, z⟩) (hi : T e = some ei) : ∃ xss : List (List SV), xs = [.sl ei.size xss.flatten] ∧ xss.length ≤ n ∧ ∀ ys ∈ xss, Typ T n e ys := by
  cases h with
  | sl _ e' _ _ _ ei' xss h hi' hl hx hs =>
    rw [ht] at h
    simp only [Option.some.injEq, TI.mk.injEq, TK.slice.injEq] at h
    obtain ⟨rfl, _⟩ := h
    rw [hi] at hi'
    cases hi'
    exact ⟨xss, rfl, hl, hx⟩
  | _ => simp_all
theorem Typ.struct' {T n t xs fs s b z} (h : Typ T n t xs) (ht : T t = some ⟨.struct fs, s, b, z⟩) : ∃ xss : List (List SV), xs = xss.flatten ∧ All2 (fun (f : Nat × Nat) ys => Typ T n f.1 ys) fs xss := by
  cases h with
  | struct _ fs' _ _ _ xss h hl hx =>
    rw [ht] at h
    simp only [Option.some.injEq, TI.mk.injEq, TK.struct.injEq] at h
    obtain ⟨rfl, _⟩ := h
    exact ⟨xss, rfl, hl.symm, hx⟩
  | _ => simp_all
theorem Typ.arr' {T n t xs m e s b z} (h : Typ T n t xs) (ht : T t = some ⟨.arr m e, s, b, z⟩) : ∃ xss : List (List SV), xs = xss.flatten ∧ xss.length = m ∧ ∀ ys ∈ xss, Typ T n e ys := by
  cases h with
  | arr _ m' e' _ _ _ xss h hl hx =>
    rw [ht] at h
    simp only [Option.some.injEq, TI.mk.injEq, TK.arr.injEq] at h
    obtain ⟨⟨rfl, rfl⟩, _⟩ := h
    exact ⟨xss, rfl, hl, hx⟩
  | _ => simp_all
theorem all2_c1 {α β : Type} {R : α → β → Prop} {u : α} {us : List α} {xs : List β} (h : All2 R (u :: us) xs) : ∃ x xs', xs = x :: xs' ∧ R u x ∧ All2 R us xs' := by
  cases xs with
  | nil => have := h.1; simp at this
  | cons x xs => exact ⟨x, xs, rfl, h.head, h.tail⟩
theorem all2_n {α β : Type} {R : α → β → Prop} {xs : List β} (h : All2 R ([] : List α) xs) : xs = [] := by
  have := h.1; exact List.eq_nil_of_length_eq_zero (by simpa using this.symm)
/-- One by one. -/
theorem choose_l {α β : Type} {p : β → Prop} {f : β → α} : ∀ {xs : List α}, (∀ x ∈ xs, ∃ y, x = f y ∧ p y) → ∃ ys : List β, xs = ys.map f ∧ ∀ y ∈ ys, p y
  | [], _ => ⟨[], rfl, fun y hy => by cases hy⟩
  | x :: xs, h => by
    obtain ⟨y, rfl, hy⟩ := h x (by simp)
    obtain ⟨ys, rfl, hys⟩ := choose_l (fun x hx => h x (by simp [hx]) : ∀ x ∈ xs, ∃ y, x = f y ∧ p y)
    exact ⟨y :: ys, rfl, fun z hz => by rcases List.mem_cons.1 hz with rfl | hz; exact hy; exact hys z hz⟩
/-- A list of whole numbers. -/
theorem Typ.ints {T n t xs e k s b z s' b' z'} (h : Typ T n t xs) (ht : T t = some ⟨.slice e, s, b, z⟩) (hi : T e = some ⟨.int k, s', b', z'⟩) : ∃ l : List Int, xs = [.sl s' (l.map fun n => .raw (.int k n))] ∧ (∀ m ∈ l, k.min ≤ m ∧ m ≤ k.max) ∧ l.length ≤ n := by
  obtain ⟨xss, rfl, hl, hx⟩ := h.sl' ht hi
  obtain ⟨l, rfl, hp⟩ := choose_l (p := fun m => k.min ≤ m ∧ m ≤ k.max) (f := fun m => [SV.raw (.int k m)]) fun ys hys => (hx ys hys).int' hi
  refine ⟨l, ?_, hp, by simpa using hl⟩
  congr 2
  clear hx hl hp h
  induction l with
  | nil => rfl
  | cons m l ih => simp only [List.map_cons, List.flatten_cons, ih]; rfl
theorem flat_map {α : Type} {f : α → List SV} (l : List α) : (l.map f).flatten = l.flatMap f := by rw [List.flatMap_def]

/-! ### parameters -/
section
variable {H : Type} {enc : TypeId × Value → H} {P : Program} {T : Tab} (hT : Tok P T) {W : World} {base : Nat} {sp : Nat → Bool} {held : Bool}
def gI (W : World) : Gh := { o := oI W, hd := fun _ => undef, bk := fun _ => 0 }
include hT
theorem arg_one {v : Value} {d : DataW H} {p : List MemPlace} {t m n : Nat} (hok : okT T m t = true) (h : DataW.Trod enc P W base sp held t v d p) (hn : Rows.uptoBulk d ≤ n) (hc : v.cells.toList = [v]) : ∃ x, Typ T n t [x] ∧ XR W (gI W) v (.p (.one (.v x))) := by
  obtain ⟨fuel, hf⟩ := h
  rw [hc] at hf
  obtain ⟨xs, h1, h2⟩ := trod_typ hT m t hok fuel _ d p hf
  obtain ⟨x, xs', rfl, hx, hn'⟩ := all2_c1 h1
  have := all2_n hn'
  subst this
  exact ⟨x, h2.mono hn, hx⟩
theorem arg_agg {cs : Array Value} {d : DataW H} {p : List MemPlace} {t m n : Nat} (hok : okT T m t = true) (h : DataW.Trod enc P W base sp held t (.agg cs) d p) (hn : Rows.uptoBulk d ≤ n) : ∃ xs, Typ T n t xs ∧ XR W (gI W) (.agg cs) (.p (.agg (xs.map .v))) := by
  obtain ⟨fuel, hf⟩ := h
  obtain ⟨xs, h1, h2⟩ := trod_typ hT m t hok fuel _ d p hf
  exact ⟨xs, h2.mono hn, cs, rfl, h1.svTv⟩
end
theorem gI_other (W : World) (b : Nat) : (gI W).o b = .other ∨ (gI W).o b = .imm := by simp only [gI, oI]; split <;> simp
theorem gI_lt (W : World) (b : Nat) (h : (gI W).o b ≠ .other) : b < W.heap.size := by simp only [gI, oI] at h; split at h <;> simp_all
theorem Fr.below {W W' : World} {g' : Gh} (h : Fr W W' (gI W).o g'.o) : Below W.heap.size W W' := ⟨h.os, h.tape, h.output, h.size, fun b hb => (h.keep b hb (gI_other W b)).1⟩
theorem bulk1 {H : Type} {ds : List (DataW H)} {d : DataW H} (hk : Rows.uptoSmall H ds = true) (h : d ∈ ds) : Rows.uptoBulk d ≤ 1048576 := Nat.le_trans (part_le h) (of_decide_eq_true hk)
/-- A law that answers true, called at what came in. -/
theorem law_calls {P : Program} {f : Nat} {xs : List X} {fr : Bool} {rows : Rows} {W : World} {vs : List Value} (h : CallOk P f xs (bo true) rows fr) (ha : All2 (XR W (gI W)) vs xs) : Calls P f vs.toArray W fun e W' => e = .returned (.bool true) ∧ Below W.heap.size W W' :=
  (h.calls W vs (gI W) (gI_other W) (gI_lt W) ha).mono fun e W' hh => by
    obtain ⟨v, g', rfl, hf, _, hx, _⟩ := hh
    have := (raw_of hx).1
    exact ⟨by rw [this], hf.below⟩
end Go.Proofs.YtdpflafjfkooeaaDoorG

/- U24: what came in: changes, states, operations; bounds (A29's and H22's, without layer 22's laws). -/
namespace Go.Proofs.YtdpflafjfkooeaaDoorG
open Go Go.RowKit Go.Proofs Go.Proofs.YtdpflafjfkooeaaDoor
set_option linter.unusedVariables false
set_option linter.unusedSimpArgs false
theorem bulkL_ge : ∀ (l : List Ch) (n : Int), n ≤ bulkL l n
  | [], n => Int.le_refl _
  | c :: r, n => by
    unfold bulkL
    split
    · have := bulkL_ge r (n + c.gone.length + c.came.length); omega
    · exact Int.le_refl _
theorem bulkL_small : ∀ (l : List Ch) (n : Int), bulkL l n ≤ 20000 → 0 ≤ n → ∀ c ∈ l, c.gone.length ≤ 20000 ∧ c.came.length ≤ 20000
  | [], n, _, _ => by simp
  | c :: r, n, h, h0 => by
    unfold bulkL at h
    split at h
    · have h1 := bulkL_ge r (n + c.gone.length + c.came.length)
      intro x hx
      rcases List.mem_cons.1 hx with rfl | hx
      · omega
      · exact bulkL_small r _ h (by omega) x hx
    · omega
theorem bulk_small {s : St} (h : bulkF s ≤ 20000) : s.text.length ≤ 20000 ∧ s.undo.length ≤ 1000 ∧ s.redo.length ≤ 1000 ∧ ∀ c ∈ s.undo ++ s.redo, c.gone.length ≤ 20000 ∧ c.came.length ≤ 20000 := by
  unfold bulkF at h
  split at h
  · omega
  · have := bulkL_ge (s.undo ++ s.redo) s.text.length
    exact ⟨by omega, by omega, by omega, bulkL_small _ _ h (by omega)⟩
structure Ch.upto (n : Nat) (c : Ch) : Prop where
  gone : c.gone.length ≤ n
  came : c.came.length ≤ n
  rgone : R32s c.gone
  rcame : R32s c.came
structure Opn.upto (n : Nat) (o : Opn) : Prop where
  len : o.text.length ≤ n
  run : R32s o.text
structure St.upto (n : Nat) (s : St) : Prop where
  len : s.text.length ≤ n
  run : R32s s.text
  undo : ∀ c ∈ s.undo, c.upto n
  redo : ∀ c ∈ s.redo, c.upto n
  ulen : s.undo.length ≤ n
  rlen : s.redo.length ≤ n
theorem upto_ok {s : St} (hs : s.upto 1048576) (h : bulkF s ≤ 20000) : s.ok := by
  obtain ⟨h1, h2, h3, h4⟩ := bulk_small h
  have hu : ∀ c ∈ s.undo, c.ok := fun c hc => ⟨by have := (h4 c (List.mem_append_left _ hc)).1; omega, by have := (h4 c (List.mem_append_left _ hc)).2; omega, (hs.undo c hc).rgone, (hs.undo c hc).rcame⟩
  have hr : ∀ c ∈ s.redo, c.ok := fun c hc => ⟨by have := (h4 c (List.mem_append_right _ hc)).1; omega, by have := (h4 c (List.mem_append_right _ hc)).2; omega, (hs.redo c hc).rgone, (hs.redo c hc).rcame⟩
  exact ⟨by omega, hs.run, hu, hr, by omega, by omega⟩
def Opn.cells (o : Opn) : List SV := [.raw (.int .i64 o.kind), .raw (.int .i64 o.at_), .raw (.int .i64 o.to_), .sl 1 (rn o.text)]
def Ch.cells (c : Ch) : List SV := [.raw (.int .i64 c.at_), .sl 1 (rn c.gone), .sl 1 (rn c.came)]
def St.cells (s : St) : List SV := [.sl 1 (rn s.text), .sl 3 (chs s.undo), .sl 3 (chs s.redo)]
theorem r32 {m : Int} (h : IntKind.i32.min ≤ m ∧ m ≤ IntKind.i32.max) : R32 m := by
  have h1 : IntKind.i32.min = -2147483648 := by decide
  have h2 : IntKind.i32.max = 2147483647 := by decide
  rw [h1, h2] at h; exact h
theorem typ_runes {n : Nat} {xs : List SV} (h : Typ T n 24 xs) : ∃ l : List Int, xs = [.sl 1 (rn l)] ∧ R32s l ∧ l.length ≤ n := by
  obtain ⟨l, rfl, h1, h2⟩ := h.ints (by rfl) (by rfl)
  exact ⟨l, rfl, fun m hm => r32 (h1 m hm), h2⟩
theorem typ_change {n : Nat} {xs : List SV} (h : Typ T n 64 xs) : ∃ c : Ch, xs = c.cells ∧ c.upto n := by
  obtain ⟨xss, rfl, ha⟩ := h.struct' (by rfl)
  obtain ⟨x0, r0, rfl, h0, ha⟩ := all2_c1 ha
  obtain ⟨x1, r1, rfl, h1, ha⟩ := all2_c1 ha
  obtain ⟨x2, r2, rfl, h2, ha⟩ := all2_c1 ha
  have := all2_n ha
  subst this
  obtain ⟨m, rfl, _⟩ := h0.int' (by rfl)
  obtain ⟨l1, rfl, q1, q2⟩ := typ_runes h1
  obtain ⟨l2, rfl, q3, q4⟩ := typ_runes h2
  exact ⟨⟨m, l1, l2⟩, rfl, q2, q4, q1, q3⟩
theorem typ_op {n : Nat} {xs : List SV} (h : Typ T n 26 xs) : ∃ o : Opn, xs = o.cells ∧ o.upto n := by
  obtain ⟨xss, rfl, ha⟩ := h.struct' (by rfl)
  obtain ⟨x0, r0, rfl, h0, ha⟩ := all2_c1 ha
  obtain ⟨x1, r1, rfl, h1, ha⟩ := all2_c1 ha
  obtain ⟨x2, r2, rfl, h2, ha⟩ := all2_c1 ha
  obtain ⟨x3, r3, rfl, h3, ha⟩ := all2_c1 ha
  have := all2_n ha
  subst this
  obtain ⟨m0, rfl, _⟩ := h0.int' (by rfl)
  obtain ⟨m1, rfl, _⟩ := h1.int' (by rfl)
  obtain ⟨m2, rfl, _⟩ := h2.int' (by rfl)
  obtain ⟨l, rfl, q1, q2⟩ := typ_runes h3
  exact ⟨⟨m0, m1, m2, l⟩, rfl, q2, q1⟩
theorem typ_changes {n : Nat} {xs : List SV} (h : Typ T n 27 xs) : ∃ l : List Ch, xs = [.sl 3 (chs l)] ∧ l.length ≤ n ∧ ∀ c ∈ l, c.upto n := by
  obtain ⟨xss, rfl, hl, hx⟩ := h.sl' (by rfl) (by rfl)
  obtain ⟨l, rfl, hp⟩ := choose_l (p := fun c => Ch.upto n c) (f := Ch.cells) fun ys hys => typ_change (hx ys hys)
  exact ⟨l, by rw [flat_map]; rfl, by simpa using hl, hp⟩
theorem typ_state {n : Nat} {xs : List SV} (h : Typ T n 29 xs) : ∃ s : St, xs = s.cells ∧ s.upto n := by
  obtain ⟨xss, rfl, ha⟩ := h.struct' (by rfl)
  obtain ⟨x0, r0, rfl, h0, ha⟩ := all2_c1 ha
  obtain ⟨x1, r1, rfl, h1, ha⟩ := all2_c1 ha
  obtain ⟨x2, r2, rfl, h2, ha⟩ := all2_c1 ha
  have := all2_n ha
  subst this
  obtain ⟨l0, rfl, q1, q2⟩ := typ_runes h0
  obtain ⟨l1, rfl, q3, q4⟩ := typ_changes h1
  obtain ⟨l2, rfl, q5, q6⟩ := typ_changes h2
  exact ⟨⟨l0, l1, l2⟩, rfl, q2, q1, q4, q6, q3, q5⟩
end Go.Proofs.YtdpflafjfkooeaaDoorG

/- L24b: layer 24's law of what is written at what came in. -/
namespace Go.Proofs.YtdpflafjfkooeaaDoorG
open Go Go.RowKit Go.Proofs Go.Proofs.YtdpflafjfkooeaaDoor
theorem typ_ops24 {n : Nat} {xs : List SV} (h : Typ T n 44 xs) : ∃ l : List Opn, xs = [.sl 4 (ops l)] ∧ l.length ≤ n ∧ ∀ o ∈ l, o.upto n := by
  obtain ⟨xss, rfl, hl, hx⟩ := h.sl' (by rfl) (by rfl)
  obtain ⟨l, rfl, hp⟩ := choose_l (p := fun c => Opn.upto n c) (f := Opn.cells) fun ys hys => typ_op (hx ys hys)
  exact ⟨l, by rw [flat_map]; rfl, by simpa using hl, hp⟩
theorem costWrites_in {W : World} {v0 v1 : Value} {x0 x1 : SV} (t0 : Typ T 1048576 44 [x0]) (a0 : XR W (gI W) v0 (.p (.one (.v x0)))) (t1 : Typ T 1048576 3 [x1]) (a1 : XR W (gI W) v1 (.p (.one (.v x1)))) :
    Calls Tryd.prog 4 #[v0, v1] W fun e W' => e = .returned (.bool true) ∧ Below W.heap.size W W' := by
  obtain ⟨l, h1, hl, ho⟩ := typ_ops24 t0
  simp only [List.cons.injEq, and_true] at h1
  subst h1
  obtain ⟨n, h2, _⟩ := t1.int' (by rfl)
  simp only [List.cons.injEq, and_true] at h2
  subst h2
  exact law_calls (writes_law l n (by omega) (fun o h => (ho o h).run) (fun o h => Nat.le_trans (ho o h).len (by omega))) (.cons a0 (.cons a1 .nil))
end Go.Proofs.YtdpflafjfkooeaaDoorG
