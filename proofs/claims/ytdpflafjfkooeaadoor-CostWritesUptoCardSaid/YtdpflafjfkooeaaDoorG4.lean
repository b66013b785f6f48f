/- G4: addresses, elements, cuts of values, conversions. -/
import Derived.Test.YtdpflafjfkooeaaDoorG3
namespace Go.Proofs.YtdpflafjfkooeaaDoorG
open Go Go.RowKit
set_option linter.unusedVariables false
set_option linter.unusedSimpArgs false

/-- A pointer content moved on by n cells. -/
def ptrAdd : X → Nat → Option X
  | .p (.one (.pr h off)), n => some (.p (.one (.pr h (off + n))))
  | .p (.one (.er h i)), n => some (.p (.one (.er h (i + n))))
  | .p (.one (.cp xs k)), n => some (.p (.one (.cp xs (k + n))))
  | .p (.one (.v (.pt xs k))), n => some (.p (.one (.cp xs (k + n))))
  | _, _ => none
theorem ptrAdd_rel {w g u x y n} (h : ptrAdd x n = some y) (r : XR w g u x) : ∃ b off, u = .pointer (some ⟨b, off, none⟩) ∧ XR w g (.pointer (some ⟨b, off + n, none⟩)) y := by
  unfold ptrAdd at h
  split at h <;> cases h
  · exact ⟨_, _, r, rfl⟩
  · obtain ⟨b, m, cap, h1, h2⟩ := r; exact ⟨b, _, h2, b, m, cap, h1, rfl⟩
  · obtain ⟨b, off, us, h1, h2, h3⟩ := r; exact ⟨b, _, h1, b, off, us, by rw [Nat.add_assoc], h2, h3⟩
  · obtain ⟨b, off, us, h1, h2, h3⟩ := SVR.cpr r; exact ⟨b, _, h1, b, off, us, by rw [Nat.add_assoc], h2, h3⟩

def vFieldAddr (T : Tab) (Γ : Nm → C) (o : Oper) (t : Nat) (x : Operand) (f : Nat) (K : List Nm → List (Nm × C) → Prop) : Prop :=
  match T t with
  | some ⟨.struct fs, _, _, _⟩ => match fs[f]? with
    | some (ft, off) => match T ft with
      | some i => match ptrAdd (opX Γ x) off with
        | some y => i.size ≠ 0 ∧ K (opR x) (putT o.dst y)
        | none => False
      | none => False
    | none => False
  | _ => False
theorem vFieldAddr_ok {P T Γ nt i o t x f K} (hT : Tok P T) (hd : dOk nt o) (ho : o.op = .fieldAddr t x f) (h : vFieldAddr T Γ o t x f K) : Good P nt i o Γ K := by
  unfold vFieldAddr at h
  split at h
  · rename_i fs sz by' ze ht
    split at h
    · rename_i ft off hf
      split at h
      · rename_i ti htf
        split at h
        · rename_i y hy
          obtain ⟨hne, h⟩ := h
          obtain ⟨fl, hu, hfl⟩ := (hT t _ ht).struct rfl
          obtain ⟨fd, hfd, e1, e2⟩ := hfl f ft off hf
          have hti := hT ft ti htf
          refine ⟨_, _, actOk_val hd (fun Δ a w g hr r => ?_), h⟩
          have h1 := opX_rel r x
          rw [opX_congr (Γ := Γ) hr] at h1
          obtain ⟨b, k, hv, hx⟩ := ptrAdd_rel hy h1
          refine ⟨_, ?_, hx⟩
          simp only [execOp, ho, hv]
          refine run_v ?_
          unfold Instr.fieldAt
          rw [run_bind_ok (run_underlying hu w)]
          simp only [hfd, Instr.sureAddr]
          rw [run_bind_ok (a := (⟨b, k, none⟩ : Addr)) (w' := w) rfl]
          unfold fieldPlace
          have hs := hti.run_size w
          rw [← e1] at hs
          simp [hs, hne, e2, go_sem]
        · exact h.elim
      · exact h.elim
    · exact h.elim
  · exact h.elim

def vIndexAddr (T : Tab) (Γ : Nm → C) (o : Oper) (t : Nat) (x ix : Operand) (K : List Nm → List (Nm × C) → Prop) : Prop :=
  match opX Γ ix with
  | .p (.one (.v (.raw (.int k n)))) => match T t with
    | some ⟨.slice el, _, _, _⟩ => match T el with
      | some ei => match opX Γ x with
        | .p (.one (.v (.sl e xs))) => e = ei.size ∧ 0 ≤ n ∧ n < (cnt e xs : Int) ∧ K (opR x ++ opR ix) (putT o.dst (.p (.one (.cp xs (n.toNat * e)))))
        | .p (.one (.sr h)) => match Γ (.row h) with
          | .row ty e xs => e = ei.size ∧ 0 ≤ n ∧ n < (cnt e xs : Int) ∧ K (opR x ++ opR ix ++ [.row h]) (putT o.dst (.p (.one (.er h (n.toNat * e)))))
          | _ => False
        | _ => False
      | none => False
    | some ⟨.arr m el, _, _, _⟩ => match T el with
      | some ei => match ptrAdd (opX Γ x) (n.toNat * ei.size) with
        | some y => 0 ≤ n ∧ n < (m : Int) ∧ K (opR x ++ opR ix) (putT o.dst y)
        | none => False
      | none => False
    | _ => False
  | _ => False
theorem run_indexAt_slice {P t el i k} {n : Int} {b off len cap : Nat} {w : World} (hu : P.underlying t = some (.slice el)) (hi : TIok P el i) (h0 : 0 ≤ n) (h1 : n < (len : Int)) :
    (Instr.indexAt t (.slice (some ⟨b, off, none⟩) len cap) (.int k n)).run P w = .ok (.pointer (some ⟨b, off + n.toNat * i.size, none⟩)) w := by
  unfold Instr.indexAt
  simp only [asIntOf]
  rw [run_bind_ok (a := (k, n)) (w' := w) rfl]
  have hs := hi.run_size w
  simp [run_underlying hu, hs, h0, h1, go_sem]
theorem run_indexAt_arr {P t el i k} {n : Int} {b off m : Nat} {w : World} (hu : P.underlying t = some (.array m el)) (hi : TIok P el i) (h0 : 0 ≤ n) (h1 : n < (m : Int)) :
    (Instr.indexAt t (.pointer (some ⟨b, off, none⟩)) (.int k n)).run P w = .ok (.pointer (some ⟨b, off + n.toNat * i.size, none⟩)) w := by
  unfold Instr.indexAt
  simp only [asIntOf]
  rw [run_bind_ok (a := (k, n)) (w' := w) rfl]
  have hs := hi.run_size w
  simp [run_underlying hu, hs, h0, h1, Instr.sureAddr, go_sem]
theorem vIndexAddr_ok {P T Γ nt i o t x ix K} (hT : Tok P T) (hd : dOk nt o) (ho : o.op = .indexAddr t x ix) (h : vIndexAddr T Γ o t x ix K) : Good P nt i o Γ K := by
  unfold vIndexAddr at h
  split at h
  · rename_i k n hix
    split at h
    · rename_i el sz by' ze ht
      split at h
      · rename_i ei hei
        have hu := (hT t _ ht).slice rfl
        split at h
        · rename_i e xs hx
          obtain ⟨rfl, h0, h1, h⟩ := h
          refine ⟨_, _, actOk_val hd (fun Δ a w g hr r => ?_), h⟩
          have hx1 := opX_rel r x
          rw [opX_congr (Γ := Γ) fun n hn => hr n (by simp [hn]), hx] at hx1
          have hi1 := opX_rel r ix
          rw [opX_congr (Γ := Γ) fun n hn => hr n (by simp [hn]), hix] at hi1
          generalize hgen : a.eval x = u at *
          cases hx1 with
          | nil ad cap => simp [cnt] at h1; omega
          | sl b off len cap _ _ us hb he hl hxl hc hul hm hr' =>
            have hlen : cnt ei.size xs = len := by rw [cnt, hxl, Nat.mul_div_cancel _ he]
            refine ⟨_, ?_, b, off, us, rfl, hb, hul, hm, hr'⟩
            simp only [execOp, ho, (raw_of hi1).1, hgen]
            exact run_v (run_indexAt_slice hu (hT el ei hei) h0 (by rw [← hlen]; exact h1))
        · rename_i hh hx
          split at h
          · rename_i ty e xs hrow
            obtain ⟨rfl, h0, h1, h⟩ := h
            refine ⟨_, _, actOk_val hd (fun Δ a w g hr r => ?_), h⟩
            have hx1 := opX_rel r x
            rw [opX_congr (Γ := Γ) fun n hn => hr n (by simp [hn]), hx] at hx1
            have hi1 := opX_rel r ix
            rw [opX_congr (Γ := Γ) fun n hn => hr n (by simp [hn]), hix] at hi1
            have rr := r.row (h := hh) (by rw [hr _ (by simp), hrow])
            obtain ⟨ad, m, cap, hh1, hh2, hh3, hh4, hh5, hh6⟩ := rr.head
            have hx2 : a.eval x = g.hd hh := hx1
            cases ad with
            | none => obtain ⟨hnil, _⟩ := hh5 rfl; subst hnil; simp [cnt] at h1; omega
            | some b =>
              obtain ⟨kk, rfl⟩ := hh6 (by rintro rfl; simp [cnt] at h1; omega) b rfl
              refine ⟨_, ?_, kk, m, cap, hh1, rfl⟩
              simp only [execOp, ho, (raw_of hi1).1, hx2, hh1]
              have := run_indexAt_slice (P := P) (k := k) (b := kk) (off := 0) (len := m) (cap := cap) (w := w) hu (hT el ei hei) h0 (by rw [hh2]; exact h1)
              rw [Nat.zero_add] at this
              exact run_v this
          · exact h.elim
        · exact h.elim
      · exact h.elim
    · rename_i m el sz by' ze ht
      split at h
      · rename_i ei hei
        split at h
        · rename_i y hy
          obtain ⟨h0, h1, h⟩ := h
          refine ⟨_, _, actOk_val hd (fun Δ a w g hr r => ?_), h⟩
          have hx1 := opX_rel r x
          rw [opX_congr (Γ := Γ) fun n hn => hr n (by simp [hn])] at hx1
          have hi1 := opX_rel r ix
          rw [opX_congr (Γ := Γ) fun n hn => hr n (by simp [hn]), hix] at hi1
          obtain ⟨b, off, hv, hx2⟩ := ptrAdd_rel hy hx1
          refine ⟨_, ?_, hx2⟩
          simp only [execOp, ho, (raw_of hi1).1, hv]
          exact run_v (run_indexAt_arr ((hT t _ ht).arr rfl) (hT el ei hei) h0 h1)
        · exact h.elim
      · exact h.elim
    · exact h.elim
  · exact h.elim

def byteAt (s : ByteArray) (n : Int) : Int := ((s.data.toList.getD n.toNat 0).toNat : Int)
def vIndex (T : Tab) (Γ : Nm → C) (o : Oper) (t : Nat) (x ix : Operand) (K : List Nm → List (Nm × C) → Prop) : Prop :=
  match opX Γ ix with
  | .p (.one (.v (.raw (.int k n)))) => match T t, opX Γ x with
    | some ⟨.str, _, _, _⟩, .p (.one (.v (.raw (.string s)))) => 0 ≤ n ∧ n < (s.size : Int) ∧ K (opR x ++ opR ix) (putT o.dst (rawX (.int .u8 (byteAt s n))))
    | some ⟨.arr m el, _, _, _⟩, .p (.agg xs) => match T el with
      | some ei => ei.k.agg = false ∧ ei.size = 1 ∧ 0 ≤ n ∧ n < (m : Int) ∧ m ≤ xs.length ∧ K (opR x ++ opR ix) (putT o.dst (.p (.one (tvAt xs n.toNat))))
      | none => False
    | _, _ => False
  | _ => False
theorem vIndex_ok {P T Γ nt i o t x ix K} (hT : Tok P T) (hd : dOk nt o) (ho : o.op = .index t x ix) (h : vIndex T Γ o t x ix K) : Good P nt i o Γ K := by
  unfold vIndex at h
  split at h
  · rename_i k n hix
    split at h
    · rename_i sz by' ze s ht hx
      obtain ⟨h0, h1, h⟩ := h
      refine ⟨_, _, actOk_val hd (fun Δ a w g hr r => ?_), h⟩
      have hx1 := opX_rel r x
      rw [opX_congr (Γ := Γ) fun n hn => hr n (by simp [hn]), hx] at hx1
      have hi1 := opX_rel r ix
      rw [opX_congr (Γ := Γ) fun n hn => hr n (by simp [hn]), hix] at hi1
      refine ⟨_, ?_, .raw _ rfl⟩
      simp only [execOp, ho, (raw_of hi1).1, (raw_of hx1).1]
      refine run_v ?_
      unfold Instr.index
      simp only [asIntOf]
      rw [run_bind_ok (a := (k, n)) (w' := w) rfl]
      have hlt : n.toNat < s.size := by omega
      have hlt' : n.toNat < s.data.size := hlt
      have hb : s[n.toNat]? = some (s.data.toList.getD n.toNat 0) := by
        rw [getElem?_pos s n.toNat hlt]
        simp only [List.getD, Array.getElem?_toList, Array.getElem?_eq_getElem hlt', Option.getD_some]
        rfl
      simp [run_underlying ((hT t _ ht).str rfl), h0, hb, byteAt, go_sem]
    · rename_i m el sz by' ze xs ht hx
      split at h
      · rename_i ei hei
        obtain ⟨ha, hs1, h0, h1, hm, h⟩ := h
        refine ⟨_, _, actOk_val hd (fun Δ a w g hr r => ?_), h⟩
        have hx1 := opX_rel r x
        rw [opX_congr (Γ := Γ) fun n hn => hr n (by simp [hn]), hx] at hx1
        have hi1 := opX_rel r ix
        rw [opX_congr (Γ := Γ) fun n hn => hr n (by simp [hn]), hix] at hi1
        obtain ⟨cs, hv, hall⟩ := hx1
        obtain ⟨v, hp, hx2⟩ := (run_part (hT el ei hei) hall (off := n.toNat) (by omega)).2 ha hs1
        refine ⟨v, ?_, hx2⟩
        simp only [execOp, ho, (raw_of hi1).1, hv]
        refine run_v ?_
        unfold Instr.index
        simp only [asIntOf]
        rw [run_bind_ok (a := (k, n)) (w' := w) rfl]
        have hs := (hT el ei hei).run_size w
        rw [hs1] at hs
        rw [run_bind_ok (run_underlying ((hT t _ ht).arr rfl) w)]
        simp only [h0, h1, and_self, if_true]
        rw [run_bind_ok hs, Nat.mul_one]
        simpa using hp
      · exact h.elim
    · exact h.elim
  · exact h.elim

/-! ### cuts of values -/
def optI (Γ : Nm → C) (d : Int) : Option Operand → Option Int
  | none => some d
  | some x => match opX Γ x with | .p (.one (.v (.raw (.int _ n)))) => some n | _ => none
def optR : Option Operand → List Nm
  | none => []
  | some x => opR x
theorem optI_run {Γ Δ nt a w g d l x} {P : Program} (h : optI Γ d x = some l) (hr : ∀ n ∈ optR x, Δ n = Γ n) (r : Rel Δ nt a w g) (y : Nat) (code : BoundsCode) :
    (x = none ∧ l = d) ∨ ∃ z, x = some z ∧ (0 ≤ l → l ≤ (y : Int) → (Instr.sliceBound (a.eval z) y code).run P w = .ok l.toNat w) := by
  cases x with
  | none => simp [optI] at h; exact .inl ⟨rfl, h.symm⟩
  | some z =>
    refine .inr ⟨z, rfl, fun h0 h1 => ?_⟩
    simp only [optI] at h
    split at h
    · rename_i k n hz
      cases h
      have hx := opX_rel r z
      rw [opX_congr (Γ := Γ) hr, hz] at hx
      rw [(raw_of hx).1]
      simp [Instr.sliceBound, asIntOf, h0, h1, go_sem]
    · cases h
theorem run_bounds {Γ Δ nt a w g l h lo hi} {P : Program} (len cap : Nat) (isS : Bool) (hlo : optI Γ 0 lo = some l) (hhi : optI Γ (len : Int) hi = some h) (hr : ∀ n ∈ optR lo ++ optR hi, Δ n = Γ n) (r : Rel Δ nt a w g)
    (h0 : 0 ≤ l) (h1 : l ≤ h) (h2 : h ≤ (cap : Int)) : (Instr.sliceBounds isS len cap (lo.map a.eval) (hi.map a.eval) none).run P w = .ok (l.toNat, h.toNat, cap) w := by
  have a1 := optI_run (P := P) hlo (fun n hn => hr n (by simp [hn])) r h.toNat .sliceB
  have a2 := optI_run (P := P) hhi (fun n hn => hr n (by simp [hn])) r cap (if isS then .sliceAcap else .sliceAlen)
  unfold Instr.sliceBounds
  rcases a2 with ⟨rfl, rfl⟩ | ⟨z2, rfl, e2⟩ <;> rcases a1 with ⟨rfl, rfl⟩ | ⟨z1, rfl, e1⟩
  · simp [go_sem]
  · have := e1 h0 (by omega)
    simp only [Int.toNat_natCast] at this
    simp only [Option.map_some, Option.map_none]
    generalize hz1 : a.eval z1 = u1 at *
    simp [this, go_sem]
  · have := e2 (by omega) h2
    simp only [Option.map_some, Option.map_none]
    generalize hz2 : a.eval z2 = u2 at *
    simp [this, go_sem]
  · have q2 := e2 (by omega) h2
    have q1 := e1 h0 (by omega)
    simp only [Option.map_some, Option.map_none]
    generalize hz1 : a.eval z1 = u1 at *
    generalize hz2 : a.eval z2 = u2 at *
    simp [q1, q2, go_sem]
def cutSV (e : Nat) (xs : List SV) (l h : Int) : List SV := (xs.drop (l.toNat * e)).take ((h - l).toNat * e)
theorem SVR.noneCap {w o e xs ad len cap} (r : SVR w o (.slice ad len cap) (.sl e xs)) (h : ad = none) : cap = 0 := by
  cases r with
  | nil _ _ _ hn => exact hn h
  | sl => simp at h
theorem SVR.cut {w o e xs ad len cap} {l h : Int} (r : SVR w o (.slice ad len cap) (.sl e xs)) (hl : len = cnt e xs) (h0 : 0 ≤ l) (h1 : l ≤ h) (h2 : h ≤ (cnt e xs : Int)) :
    SVR w o (.slice (if cap = l.toNat then ad else ad.map (·.add (l.toNat * e))) (h.toNat - l.toNat) (cap - l.toNat)) (.sl e (cutSV e xs l h)) := by
  by_cases hz : h = l
  · subst hz
    have : cutSV e xs h h = [] := by simp [cutSV]
    rw [this, Nat.sub_self]
    refine .nil _ _ _ fun hn => ?_
    have hn' : ad = none := by split at hn <;> simp_all
    have := r.noneCap hn'
    omega
  · cases r with
    | nil => simp [cnt] at h2; omega
    | sl b off _ _ _ _ us hb he hlen hx hc hu hm hr =>
      have hcl : cap ≠ l.toNat := by omega
      rw [if_neg hcl]
      simp only [Option.map_some, Addr.add_lit]
      have e3 : (h - l).toNat = h.toNat - l.toNat := by omega
      have hmul : h.toNat * e ≤ len * e := Nat.mul_le_mul_right _ (by omega)
      have hmul2 : l.toNat * e + (h - l).toNat * e = h.toNat * e := by rw [← Nat.add_mul]; congr 1; omega
      have hA := (All2.take (n := (h - l).toNat * e) (All2.drop (n := l.toNat * e) (R := SVR w o) ⟨hu, hr⟩))
      refine .sl b _ _ _ e _ ((us.drop (l.toNat * e)).take ((h - l).toNat * e)) hb he (by omega) ?_ (by omega) hA.1 (fun j u hj => ?_) hA.2
      · simp only [cutSV, List.length_take, List.length_drop]; rw [← e3]; omega
      · rw [List.getElem?_take] at hj
        split at hj
        · rw [List.getElem?_drop] at hj
          rw [Nat.add_assoc]
          exact hm _ u hj
        · cases hj
theorem run_slice_slice {P t el i} {w : World} {a : Act} {ad len cap lo hi l h} (hu : P.underlying t = some (.slice el)) (hi' : TIok P el i)
    (hb : (Instr.sliceBounds true len cap lo hi none).run P w = .ok (l, h, cap) w) :
    (Instr.sliceAt t (.slice ad len cap) lo hi none).run P w = .ok (.slice (if cap = l then ad else ad.map (·.add (l * i.size))) (h - l) (cap - l)) w := by
  unfold Instr.sliceAt
  rw [run_bind_ok (run_underlying hu w)]
  simp only []
  unfold Instr.slice
  have hs := hi'.run_size w
  rw [run_bind_ok (run_underlying hu w)]
  simp only []
  rw [run_bind_ok hb]
  simp only []
  rw [run_bind_ok hs]
  rfl
theorem run_slice_str {P t} {w : World} {s lo hi l h} (hu : P.underlying t = some .string)
    (hb : (Instr.sliceBounds false s.size s.size lo hi none).run P w = .ok (l, h, s.size) w) :
    (Instr.sliceAt t (.string s) lo hi none).run P w = .ok (.string (s.extract l h)) w := by
  unfold Instr.sliceAt
  rw [run_bind_ok (run_underlying hu w)]
  simp only []
  unfold Instr.slice
  rw [run_bind_ok (run_underlying hu w)]
  simp only [Option.isSome_none, Bool.false_eq_true, if_false]
  first
  | rw [run_bind_ok hb]; rfl
  | (rw [run_bind_ok (a := ()) (w' := w) rfl, run_bind_ok hb]; rfl)
def vSliceV (T : Tab) (Γ : Nm → C) (o : Oper) (t : Nat) (x : Operand) (lo hi : Option Operand) (K : List Nm → List (Nm × C) → Prop) : Prop :=
  match T t with
  | some ⟨.str, _, _, _⟩ => match opX Γ x with
    | .p (.one (.v (.raw (.string s)))) => match optI Γ 0 lo, optI Γ (s.size : Int) hi with
      | some l, some h => 0 ≤ l ∧ l ≤ h ∧ h ≤ (s.size : Int) ∧ K (opR x ++ (optR lo ++ optR hi)) (putT o.dst (rawX (.string (s.extract l.toNat h.toNat))))
      | _, _ => False
    | _ => False
  | some ⟨.slice el, _, _, _⟩ => match T el, opX Γ x with
    | some ei, .p (.one (.v (.sl e xs))) => match optI Γ 0 lo, optI Γ (cnt e xs : Int) hi with
      | some l, some h => e = ei.size ∧ 0 ≤ l ∧ l ≤ h ∧ h ≤ (cnt e xs : Int) ∧ K (opR x ++ (optR lo ++ optR hi)) (putT o.dst (.p (.one (.v (.sl e (cutSV e xs l h))))))
      | _, _ => False
    | _, _ => False
  | _ => False
theorem vSliceV_ok {P T Γ nt i o t x lo hi K} (hT : Tok P T) (hd : dOk nt o) (ho : o.op = .slice t x lo hi none) (h : vSliceV T Γ o t x lo hi K) : Good P nt i o Γ K := by
  unfold vSliceV at h
  split at h
  · rename_i sz by' ze ht
    split at h
    · rename_i s hx
      split at h
      · rename_i l hh hlo hhi
        obtain ⟨h0, h1, h2, h⟩ := h
        refine ⟨_, _, actOk_val hd (fun Δ a w g hr r => ?_), h⟩
        have hx1 := opX_rel r x
        rw [opX_congr (Γ := Γ) fun n hn => hr n (by simp [hn]), hx] at hx1
        refine ⟨_, ?_, .raw _ rfl⟩
        simp only [execOp, ho, (raw_of hx1).1]
        exact run_v (run_slice_str ((hT t _ ht).str rfl) (run_bounds s.size s.size false hlo hhi (fun n hn => hr n (by simp only [List.mem_append] at hn ⊢; exact .inr hn)) r h0 h1 h2))
      · exact h.elim
    · exact h.elim
  · rename_i el sz by' ze ht
    split at h
    · rename_i ei e xs hei hx
      split at h
      · rename_i l hh hlo hhi
        obtain ⟨rfl, h0, h1, h2, h⟩ := h
        refine ⟨_, _, actOk_val hd (fun Δ a w g hr r => ?_), h⟩
        have hx1 := opX_rel r x
        rw [opX_congr (Γ := Γ) fun n hn => hr n (by simp [hn]), hx] at hx1
        obtain ⟨ad, n, cap, hv, hn, hc, _⟩ := slOf_head (Γ := Γ) (Δ := Δ) (x := .p (.one (.v (.sl ei.size xs)))) rfl (by simp) r hx1
        rw [hv] at hx1
        refine ⟨_, ?_, SVR.cut hx1 hn h0 h1 h2⟩
        simp only [execOp, ho, hv]
        exact run_v (run_slice_slice (a := a) ((hT t _ ht).slice rfl) (hT el ei hei) (run_bounds n cap true hlo (by rw [hn]; exact hhi) (fun n hn => hr n (by simp only [List.mem_append] at hn ⊢; exact .inr hn)) r h0 h1 (by rw [← hn] at h2; omega)))
      · exact h.elim
    · exact h.elim
  · exact h.elim

/-! ### conversions of numbers, checks of pointers -/
def vConv (T : Tab) (Γ : Nm → C) (o : Oper) (s d : Nat) (x : Operand) (K : List Nm → List (Nm × C) → Prop) : Prop :=
  match T s, T d, opX Γ x with
  | some _, some ⟨.int k, _, _, _⟩, .p (.one (.v (.raw (.int _ n)))) => K (opR x) (putT o.dst (rawX (.int k (k.wrap n))))
  | some ⟨.str, _, _, _⟩, some ⟨.str, _, _, _⟩, .p (.one (.v (.raw (.string b)))) => K (opR x) (putT o.dst (rawX (.string b)))
  | _, _, _ => False
theorem TIok.int {P t i k} (h : TIok P t i) (hk : i.k = .int k) : P.underlying t = some (.int k) := by
  obtain ⟨d, hd, he⟩ := h.und'
  rw [hk] at he
  cases d <;> simp [dK] at he
  rw [hd, he]
theorem vConv_ok {P T Γ nt i o s d x K} (hT : Tok P T) (hd : dOk nt o) (ho : o.op = .convert s d x) (h : vConv T Γ o s d x K) : Good P nt i o Γ K := by
  unfold vConv at h
  split at h
  · rename_i ti k sz by' ze k' n hs hdd hx
    refine ⟨_, _, actOk_val hd (fun Δ a w g hr r => ?_), h⟩
    have hx1 := opX_rel r x
    rw [opX_congr (Γ := Γ) hr, hx] at hx1
    obtain ⟨d', hd', _⟩ := (hT s ti hs).und'
    refine ⟨_, ?_, .raw _ rfl⟩
    simp only [execOp, ho, (raw_of hx1).1]
    exact run_v (by simp [convert, run_underlying hd', run_underlying ((hT d _ hdd).int rfl), Conv.intToInt, go_sem])
  · rename_i sz by' ze sz' by'' ze' b hs hdd hx
    refine ⟨_, _, actOk_val hd (fun Δ a w g hr r => ?_), h⟩
    have hx1 := opX_rel r x
    rw [opX_congr (Γ := Γ) hr, hx] at hx1
    refine ⟨_, ?_, .raw _ rfl⟩
    simp only [execOp, ho, (raw_of hx1).1]
    refine run_v ?_
    unfold convert
    simp [run_underlying ((hT s _ hs).str rfl), run_underlying ((hT d _ hdd).str rfl), go_sem]
  · exact h.elim
def vNilCheck (Γ : Nm → C) (o : Oper) (x : Operand) (K : List Nm → List (Nm × C) → Prop) : Prop :=
  match ptrAdd (opX Γ x) 0 with
  | some _ => K (opR x) (putT o.dst (opX Γ x))
  | none => False
theorem vNilCheck_ok {P Γ nt i o x K} (hd : dOk nt o) (ho : o.op = .nilCheck x) (h : vNilCheck Γ o x K) : Good P nt i o Γ K := by
  unfold vNilCheck at h
  split at h
  · rename_i y hy
    refine ⟨_, _, actOk_val hd (fun Δ a w g hr r => ?_), h⟩
    have hx1 := opX_rel r x
    rw [opX_congr (Γ := Γ) hr] at hx1
    obtain ⟨b, off, hv, _⟩ := ptrAdd_rel hy hx1
    refine ⟨a.eval x, ?_, hx1⟩
    simp only [execOp, ho, hv]
    rfl
  · exact h.elim

end Go.Proofs.YtdpflafjfkooeaaDoorG
