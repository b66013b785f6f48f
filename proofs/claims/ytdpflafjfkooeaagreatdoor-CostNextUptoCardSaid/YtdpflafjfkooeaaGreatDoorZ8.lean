/- YtdpflafjfkooeaaGreatDoorZ8: a part of the proof, joined of its texts. -/
import Derived.Test.YtdpflafjfkooeaaGreatDoorZ7
/- G10: every operation; one step of a region. -/
namespace Go.Proofs.YtdpflafjfkooeaaGreatDoorG
open Go Go.RowKit
set_option linter.unusedVariables false
set_option linter.unusedSimpArgs false
def vMoveT (T : Tab) (Γ : Nm → C) (o : Oper) (x : Operand) (K : List Nm → List (Nm × C) → Prop) : Prop := K (opR x) (putT o.dst (nlAs T o.type (opX Γ x)))
theorem vMoveT_ok {P T Γ nt i o x K} (hd : dOk nt o) (ho : o.op = .move x ∨ o.op = .assign x) (h : vMoveT T Γ o x K) : Good P nt i o Γ K := by
  refine ⟨_, _, actOk_val hd (fun Δ a w g hr r => ?_), h⟩
  have hx := opX_rel r x
  rw [opX_congr (Γ := Γ) hr] at hx
  exact ⟨_, by rcases ho with ho | ho <;> (simp only [execOp, ho]; rfl), nlAs_rel hx⟩
/-- The empty slice without room: x[:0:0]. -/
def vSliceZ (T : Tab) (Γ : Nm → C) (i : Nat) (o : Oper) (t : Nat) (x : Operand) (K : List Nm → List (Nm × C) → Prop) : Prop :=
  match T t with
  | some ⟨.slice el, _, _, _⟩ => match T el, slOf Γ (opX Γ x) with
    | some ei, some (_, _, rd) => 0 < ei.size ∧ K (opR x ++ rd) (putT o.dst (.p (.one (.sr (th i 0)))) ++ [(.row (th i 0), .row el ei.size [])])
    | _, _ => False
  | _ => False
theorem vSliceZ_ok {P T Γ nt i o t x K k1 k2} (hT : Tok P T) (hd : dOk nt o) (ho : o.op = .slice t x none (some (.const (.int k1 0))) (some (.const (.int k2 0)))) (h : vSliceZ T Γ i o t x K) : Good P nt i o Γ K := by
  unfold vSliceZ at h
  split at h
  · rename_i el sz by' ze ht
    split at h
    · rename_i ei e xs rd hei hs
      obtain ⟨h0, h⟩ := h
      refine ⟨_, _, ?_, h⟩
      intro Δ a w g Q K' hr hu r hk
      have hx1 := opX_rel r x
      rw [opX_congr (Γ := Γ) fun n hn => hr n (by simp [hn])] at hx1
      obtain ⟨ad, n, cap, hv, _⟩ := slOf_head hs (fun n hn => hr n (by simp [hn])) r hx1
      have hb : (Instr.sliceBounds true n cap none (some (.int k1 0)) (some (.int k2 0))).run P w = .ok (0, 0, 0) w := by
        simp [Instr.sliceBounds, Instr.sliceBound, asIntOf, go_sem]
      have hrun : (execOp a.eval o).run P w = .ok (.value (.slice ad 0 0)) w := by
        simp only [execOp, ho, Option.map_some, Option.map_none, hv]
        refine run_v ?_
        show (Instr.sliceAt t (.slice ad n cap) none (some (.int k1 0)) (some (.int k2 0))).run P w = _
        unfold Instr.sliceAt
        rw [run_bind_ok (run_underlying ((hT t _ ht).slice rfl) w)]
        simp only []
        unfold Instr.slice
        rw [run_bind_ok (run_underlying ((hT t _ ht).slice rfl) w)]
        simp only []
        rw [run_bind_ok hb]
        simp only []
        rw [run_bind_ok ((hT el ei hei).run_size w)]
        simp
      cases ad with
      | none =>
        have r2 := r.nilHome' (hu (th i 0) (isTh_th (by omega))) (ty := el) h0
        exact wp_value hrun (hk _ _ _ (rel_putT' (Γ := Δ) hd (wr := [(.row (th i 0), _)]) r2 (by simp [XR, PXR, TVR])) (Fr.refl _ _))
      | some b =>
        obtain ⟨r2, f2, x2⟩ := z_row r (hu (th i 0) (isTh_th (by omega))) (b := b) (ty := el) (e := ei.size) h0
        exact wp_value hrun (hk _ _ _ (rel_putT' (Γ := Δ) hd (wr := [(.row (th i 0), _)]) r2 x2) f2)
    · exact h.elim
  · exact h.elim
/-- A function value that has caught nothing. -/
def vFunc (o : Oper) (fn : Fn) (n m : Nat) (K : List Nm → List (Nm × C) → Prop) : Prop := n = 0 ∧ m = 0 ∧ K [] (putT o.dst (rawX (.func fn #[] #[])))
theorem vFunc_ok {P Γ nt i o fn K} {first captured : Array Operand} (hd : dOk nt o) (ho : o.op = .makeFunc fn first captured) (h : vFunc o fn first.size captured.size K) : Good P nt i o Γ K := by
  obtain ⟨h1, h2, h⟩ := h
  refine ⟨_, _, actOk_val hd (fun Δ a w g hr r => ?_), h⟩
  have e1 : first = #[] := Array.eq_empty_of_size_eq_zero h1
  have e2 : captured = #[] := Array.eq_empty_of_size_eq_zero h2
  subst e1; subst e2
  exact ⟨_, by simp only [execOp, ho]; exact run_v (by simp [Instr.makeFunc]), .raw _ rfl⟩
/-- A box that is never written again. -/
def Gh.frb (g : Gh) (h : Nat) : Gh := { o := fun b => if g.o b = .box h then .imm else g.o b, hd := g.hd, bk := g.bk }
theorem frb_svr {w : World} {g : Gh} {h : Nat} {v : Value} {x : SV} (r : SVR w g.o v x) : SVR w (g.frb h).o v x := r.mono fun b hb => ⟨by simp [Gh.frb, hb], rfl⟩
theorem frb_tvr {w : World} {g : Gh} {h : Nat} {v : Value} {x : TV} (r : TVR w g v x) : TVR w (g.frb h) v x := by
  cases x with
  | v x => exact frb_svr r
  | cp xs k => exact (frb_svr (CPR.svr r)).cpr
  | nn e xs => exact ⟨frb_svr r.1, r.2⟩
  | _ => exact r
theorem frb_pxr {w : World} {g : Gh} {h : Nat} {v : Value} {x : PX} (r : PXR w g v x) : PXR w (g.frb h) v x := by
  cases x with
  | one x => exact frb_tvr r
  | agg xs => obtain ⟨cs, h1, h2⟩ := r; exact ⟨cs, h1, h2.mono fun _ _ => frb_tvr⟩
theorem frb_xr {w : World} {g : Gh} {h : Nat} {v : Value} {x : X} (r : XR w g v x) : XR w (g.frb h) v x := by
  cases x with
  | p x => exact frb_pxr r
  | tup xs => obtain ⟨cs, h1, h2⟩ := r; exact ⟨cs, h1, h2.mono fun _ _ => frb_pxr⟩
theorem Rel.frb {Γ nt a w g} (r : Rel Γ nt a w g) (h : Nat) : Rel (up Γ (.box h) .none) nt a w (g.frb h) := by
  refine ⟨r.size, r.df, fun b hb => r.tags b fun e => hb (by simp [Gh.frb, e]), r.gl.keep fun q => ⟨rfl, by simp [Gh.frb, q]⟩, fun n => ?_⟩
  by_cases e : n = .box h
  · subst e; rw [up_same]; trivial
  · rw [up_ne e]
    have hc := r.cr n
    cases n with
    | t i => cases hg : Γ (.t i) <;> rw [hg] at hc <;> first | trivial | exact frb_xr hc
    | row k =>
      cases hg : Γ (.row k) <;> rw [hg] at hc <;> first | trivial | skip
      obtain ⟨m, vs, h1, h2, h3, h4⟩ := hc
      exact ⟨m, vs, h1, h2, h3.imp (fun q => ⟨q.1, fun b hb => by simp [Gh.frb, q.2 b hb]⟩) id, h4.mono fun _ _ => frb_svr⟩
    | box k =>
      cases hg : Γ (.box k) <;> rw [hg] at hc <;> first | trivial | skip
      obtain ⟨cur, h1, h2, h3⟩ := hc
      have hne : k ≠ h := fun e' => e (by rw [e'])
      exact ⟨cur, h1, by simp [Gh.frb, h2, hne], h3.mono fun _ _ => frb_tvr⟩
theorem Fr.frb (w : World) (g : Gh) (h : Nat) : Fr w w g.o (g.frb h).o :=
  ⟨rfl, rfl, rfl, Nat.le_refl _, fun b hb ho => ⟨rfl, by rcases ho with ho | ho <;> simp [Gh.frb, ho]⟩, fun b hb ⟨k, hk⟩ => ⟨by simp only [Gh.frb, hk]; split <;> rfl, Shp.refl w b⟩⟩
/-- A function value that has caught one thing: a value, or an own variable, which from now on is not written any more. -/
def vClo (Γ : Nm → C) (o : Oper) (fn : Fn) (cs : List Operand) (K : List Nm → List (Nm × C) → Prop) : Prop :=
  match fn, cs with
  | .func f, [.tmp t] => match Γ (.t t) with
    | .t (.p (.one (.v s))) => K [.t t] (putT o.dst (.p (.one (.v (.clo f [s])))))
    | .t (.p (.one (.pr h 0))) => match Γ (.box h) with
      | .box _ xs => match frzL Γ xs with
        | some (ss, hs) => K (.t t :: .box h :: hs.map .row) (putT o.dst (.p (.one (.v (.clo f [.pt ss 0])))) ++ ((.t t, .t (.p (.one (.v (.pt ss 0))))) :: (.box h, .none) :: frzW hs))
        | none => False
      | _ => False
    | _ => False
  | _, _ => False
theorem vClo_ok {P Γ nt i o fn K} {first captured : Array Operand} (hd : dOk nt o) (ho : o.op = .makeFunc fn first captured) (hn : first.size = 0) (h : vClo Γ o fn captured.toList K) : Good P nt i o Γ K := by
  unfold vClo at h
  split at h
  · rename_i f t hcs
    have e1 : first = #[] := Array.eq_empty_of_size_eq_zero hn
    have e2 : captured = #[.tmp t] := by rw [← Array.toArray_toList (xs := captured), hcs]
    subst e1; subst e2
    have hrun : ∀ (a : Act) (w : World), (execOp a.eval o).run P w = .ok (.value (.func (.func f) #[] #[a.tmps.getD t undef])) w := fun a w => by
      simp only [execOp, ho]
      exact run_v (by simp [Instr.makeFunc, Act.eval])
    split at h
    · rename_i s ht
      refine ⟨_, _, actOk_val hd (fun Δ a w g hr r => ⟨_, hrun a w, ?_⟩), h⟩
      have hx := r.tmp (i := t) (by rw [hr _ (by simp), ht])
      exact SVR.clo f [s] [a.tmps.getD t undef] rfl fun j u x h1 h2 => by
        cases j with
        | zero => cases h1; cases h2; exact hx
        | succ j => simp at h1
    · rename_i hh ht
      split at h
      · rename_i ty xs hb
        split at h
        · rename_i ss hs hz
          refine ⟨_, _, ?_, h⟩
          intro Δ a w g Q K' hr hu r hk
          have hx0 := r.tmp (i := t) (by rw [hr _ (by simp), ht])
          have hx : a.tmps.getD t undef = .pointer (some ⟨g.bk hh, 0, none⟩) := hx0
          obtain ⟨cur, q1, q2, q3⟩ := r.box (h := hh) (by rw [hr _ (by simp), hb])
          have q4 := frzL_rel (hs := hs) r hz (fun k hk => hr _ (by simp [hk])) (fun _ h => h) q3
          have hq2 : ((g.frz hs).frb hh).o (g.bk hh) = .imm := by simp [Gh.frb, Gh.frz, q2]
          have hp : SVR w ((g.frz hs).frb hh).o (a.tmps.getD t undef) (.pt ss 0) := by
            rw [hx]
            refine SVR.pt (g.bk hh) 0 0 ss cur.toList hq2 (by have := q4.1; simpa using this) (fun j u hj => ?_) fun j u x a b => frb_svr (q4.2 j u x a b)
            rw [Nat.zero_add]
            exact cell_of_cells q1 (by simpa using hj)
          have r1 := (r.frz hs).frb hh
          have hlt : t < nt := by
            by_cases hlt : t < nt
            · exact hlt
            · rw [← r.size] at hlt
              have : a.tmps.getD t undef = undef := by simp [Array.getD_eq_getD_getElem?, Array.getElem?_eq_none (Nat.le_of_not_lt hlt)]
              rw [this] at hx; simp [undef] at hx
          have r2 := r1.upd (n := .t t) (c := .t (.p (.one (.v (.pt ss 0))))) (by exact hp)
          have hclo : XR w ((g.frz hs).frb hh) (.func (.func f) #[] #[a.tmps.getD t undef]) (.p (.one (.v (.clo f [.pt ss 0])))) :=
            SVR.clo f [.pt ss 0] [a.tmps.getD t undef] rfl fun j u x h1 h2 => by
              cases j with
              | zero => cases h1; cases h2; exact hp
              | succ j => simp at h1
          exact wp_value (hrun a w) (hk _ _ _ (rel_putT' (Γ := Δ) hd (wr := (.t t, _) :: (.box hh, .none) :: frzW hs) r2 hclo) ((Fr.frz w g hs).trans (Fr.frb w (g.frz hs) hh)))
        · exact h.elim
      · exact h.elim
    · exact h.elim
  · exact h.elim
/-- A function value that has caught own variables. -/
def capH (Γ : Nm → C) : List Operand → Option (List Nat)
  | [] => some []
  | x :: r => match opX Γ x, capH Γ r with
    | .p (.one (.pr h 0)), some hs => some (h :: hs)
    | _, _ => none
theorem capH_rel {Γ Δ : Nm → C} {nt a w g} (r : Rel Δ nt a w g) : ∀ {cs : List Operand} {hs}, capH Γ cs = some hs → (∀ n ∈ cs.flatMap opR, Δ n = Γ n) → cs.map a.eval = hs.map fun h => Value.pointer (some ⟨g.bk h, 0, none⟩)
  | [], hs, h, _ => by simp [capH] at h; subst h; rfl
  | x :: cs, hs, h, hr => by
    simp only [capH] at h
    split at h
    · rename_i h' hs' e1 e2
      cases h
      have hx := opX_rel r x
      rw [opX_congr (Γ := Γ) fun n hn => hr n (by simp [hn]), e1] at hx
      have hv : a.eval x = .pointer (some ⟨g.bk h', 0, none⟩) := hx
      simp only [List.map_cons, hv, capH_rel r e2 fun n hn => hr n (by simp only [List.flatMap_cons, List.mem_append]; exact .inr hn)]
    · cases h
def vFuncB (Γ : Nm → C) (o : Oper) (f : Nat) (cs : List Operand) (K : List Nm → List (Nm × C) → Prop) : Prop :=
  match capH Γ cs with
  | some hs => K (cs.flatMap opR) (putT o.dst (.p (.one (.cb f hs))))
  | none => False
theorem vFuncB_ok {P Γ nt i o f K} {first captured : Array Operand} (hd : dOk nt o) (ho : o.op = .makeFunc (.func f) first captured) (hn : first.size = 0) (h : vFuncB Γ o f captured.toList K) : Good P nt i o Γ K := by
  unfold vFuncB at h
  split at h
  · rename_i hs hcs
    refine ⟨_, _, actOk_val hd (fun Δ a w g hr r => ?_), h⟩
    have e1 : first = #[] := Array.eq_empty_of_size_eq_zero hn
    subst e1
    have e2 := capH_rel r hcs hr
    refine ⟨.func (.func f) #[] (captured.map a.eval), ?_, ?_⟩
    · simp only [execOp, ho]
      exact run_v (by simp [Instr.makeFunc])
    · show _ = Value.func (.func f) #[] _
      rw [← e2, ← Array.toList_map]
  · exact h.elim
def vFuncX (O : Orc) (Γ : Nm → C) (o : Oper) (fn : Fn) (fs cs : List Operand) (K : List Nm → List (Nm × C) → Prop) : Prop :=
  match fs, cs with
  | [], [] => vFunc o fn 0 0 K
  | [], cs => match fn with
    | .func f => if O.bx f || O.rx f then vFuncB Γ o f cs K else vClo Γ o (.func f) cs K
    | fn => vClo Γ o fn cs K
  | _, _ => False
theorem vFuncX_ok {P Γ nt i o fn K O} {first captured : Array Operand} (hd : dOk nt o) (ho : o.op = .makeFunc fn first captured) (h : vFuncX O Γ o fn first.toList captured.toList K) : Good P nt i o Γ K := by
  have hsz : first.toList = [] → first.size = 0 := fun h => by rw [← Array.length_toList, h]; rfl
  unfold vFuncX at h
  split at h
  · rename_i hf hc
    have : captured.size = 0 := by rw [← Array.length_toList, hc]; rfl
    exact vFunc_ok hd ho (by rw [this, hsz hf]; exact h)
  · rename_i hf _
    split at h
    · split at h
      · exact vFuncB_ok hd ho (hsz hf) h
      · exact vClo_ok hd ho (hsz hf) h
    · exact vClo_ok hd ho (hsz hf) h
  · exact h.elim
/-- A number as an interface's value; a panic with an interface's value. -/
def vIface (T : Tab) (Γ : Nm → C) (o : Oper) (t : Nat) (x : Operand) (K : List Nm → List (Nm × C) → Prop) : Prop :=
  match T t, opX Γ x with
  | some ⟨.int _, _, _, _⟩, .p (.one (.v (.raw u))) => K (opR x) (putT o.dst (rawX (.iface t u)))
  | some ⟨.ptr _, _, _, _⟩, .p (.one (.v (.pt xs k))) => K (opR x) (putT o.dst (.p (.one (.v (.ifc t (.pt xs k))))))
  | _, _ => False
theorem vIface_ok {P T Γ nt i o t x K} (hT : Tok P T) (hd : dOk nt o) (ho : o.op = .makeInterface t x) (h : vIface T Γ o t x K) : Good P nt i o Γ K := by
  unfold vIface at h
  split at h
  · rename_i k sz by' ze u ht hx
    refine ⟨_, _, actOk_val hd (fun Δ a w g hr r => ?_), h⟩
    have hx1 := opX_rel r x
    rw [opX_congr (Γ := Γ) hr, hx] at hx1
    refine ⟨_, ?_, .raw _ rfl⟩
    simp only [execOp, ho, (raw_of hx1).1]
    refine run_v ?_
    unfold Instr.makeInterface
    rw [run_bind_ok (run_underlying ((hT t _ ht).int rfl) w)]
    rfl
  · rename_i el sz by' ze xs k ht hx
    refine ⟨_, _, actOk_val hd (fun Δ a w g hr r => ?_), h⟩
    have hx1 := opX_rel r x
    rw [opX_congr (Γ := Γ) hr, hx] at hx1
    have hx2 : SVR w g.o (a.eval x) (.pt xs k) := hx1
    refine ⟨_, ?_, SVR.ifc t _ _ hx2⟩
    simp only [execOp, ho]
    refine run_v ?_
    unfold Instr.makeInterface
    rw [run_bind_ok (run_underlying (isPtT_und hT (by simp [isPtT, ht])) w)]
    rfl
  · exact h.elim
def vPanic (Γ : Nm → C) (x : Operand) (K : List Nm → List (Nm × C) → Prop) : Prop :=
  match opX Γ x with
  | .p (.one (.v (.raw (.iface t u)))) => K (opR x) (pan (.iface t u))
  | _ => False
theorem vPanic_ok {P Γ nt i o x K} (ho : o.op = .panic x) (h : vPanic Γ x K) : Good2 P nt i o Γ K := by
  unfold vPanic at h
  split at h
  · rename_i t u hx
    refine ⟨_, _, PanOk.x (v := .iface t u) ?_ rfl, h⟩
    intro Δ a w g Q K' hr hu r hk
    have hx1 := opX_rel r x
    rw [opX_congr (Γ := Γ) hr, hx] at hx1
    have hrun : (execOp a.eval o).run P w = .halt (.panic (.iface t u)) w := by
      simp only [execOp, ho, (raw_of hx1).1]
      rw [Sem.run_bind]
      rfl
    unfold Oper.wp
    rw [hrun]
    exact hk w g r.tags (Fr.refl _ _)
  · exact h.elim
/-- Bytes as a string. -/
def strB (ns : List Int) : ByteArray := ⟨(ns.map fun n => UInt8.ofNat n.toNat).toArray⟩
def bytesV (ns : List Int) : List SV := ns.map fun n => .raw (.int .u8 n)
def vStrK (xs : List SV) (K : ByteArray → Prop) : Prop := ∃ ns, xs = bytesV ns ∧ K (strB ns)
theorem vStrK_i {xs : List SV} {K : ByteArray → Prop} (ns : List Int) (h : xs = bytesV ns) (hK : K (strB ns)) : vStrK xs K := ⟨ns, h, hK⟩
def vConvS (T : Tab) (Γ : Nm → C) (o : Oper) (s d : Nat) (x : Operand) (K : List Nm → List (Nm × C) → Prop) : Prop :=
  match T s, T d, slOf Γ (opX Γ x) with
  | some ⟨.slice el, _, _, _⟩, some ⟨.str, _, _, _⟩, some (e, xs, rd) => match T el with
    | some ⟨.int .u8, _, _, _⟩ => e = 1 ∧ vStrK xs fun b => K (opR x ++ rd) (putT o.dst (rawX (.string b)))
    | _ => False
  | _, _, _ => False
theorem foldl_strB : ∀ (ns : List Int) (r : ByteArray), ns.foldl (fun r n => r.push (UInt8.ofNat n.toNat)) r = ⟨r.data ++ (ns.map fun n => UInt8.ofNat n.toNat).toArray⟩
  | [], r => by simp
  | n :: ns, r => by
    simp only [List.foldl_cons]
    rw [foldl_strB ns]
    simp [ByteArray.push]
theorem vConvS_ok {P T Γ nt i o s d x K} (hT : Tok P T) (hd : dOk nt o) (ho : o.op = .convert s d x) (h : vConvS T Γ o s d x K) : Good P nt i o Γ K := by
  unfold vConvS at h
  split at h
  · rename_i el sz by' ze sz' by'' ze' e xs rd hs hdd hx
    split at h
    · rename_i sz3 by3 ze3 hel
      obtain ⟨rfl, ns, hns, h⟩ := h
      refine ⟨_, _, actOk_val hd (fun Δ a w g hr r => ?_), h⟩
      have hx1 := opX_rel r x
      rw [opX_congr (Γ := Γ) fun n hn => hr n (by simp [hn])] at hx1
      obtain ⟨ad, m, c, news, hv, hn0, hm, hnl, hcells, hall⟩ := src_cells hx (fun n hn => hr n (by simp [hn])) r hx1
      have hnews : news = ns.map (Value.int .u8) := by
        apply List.ext_getElem?
        intro j
        have hl := hall.1
        rw [hns] at hl hall
        simp only [bytesV, List.length_map] at hl
        by_cases hj : j < ns.length
        · have h1 : news[j]? = some news[j] := List.getElem?_eq_getElem (by omega)
          have h2 : (bytesV ns)[j]? = some (.raw (.int .u8 ns[j])) := by simp [bytesV, hj]
          have h3 := hall.2 j _ _ h1 h2
          have h4 : news[j] = .int .u8 ns[j] := by
            generalize news[j] = u at h3
            cases h3 with
            | raw _ _ => rfl
          rw [h1, h4]
          simp [hj]
        · rw [List.getElem?_eq_none (by omega), List.getElem?_eq_none (by simp; omega)]
      have hml : m = ns.length := by rw [hm, hns]; simp [cnt, bytesV]
      have hcv := fun a' => run_convert_bytes_string (P := P) w s d el a' m c ((hT s _ hs).slice rfl) ((hT el _ hel).int rfl) ((hT d _ hdd).str rfl)
      refine ⟨.string (strB ns), ?_, .raw _ rfl⟩
      simp only [execOp, ho, hv]
      refine run_v ?_
      cases ad with
      | none =>
        obtain ⟨rfl, rfl⟩ := hn0 rfl
        have hnn : ns = [] := List.eq_nil_of_length_eq_zero hml.symm
        subst hnn
        rw [hcv none]
        rfl
      | some b =>
        rw [hcv (some b)]
        have hl := run_loadCells_list (P := P) w b (ns.map (Value.int .u8)) (fun j v hj => hcells b rfl j v (by rw [hnews]; exact hj))
        rw [List.length_map, ← hml] at hl
        rw [run_bytesToString w b m c ns hl, foldl_strB]
        have he0 : ByteArray.empty.data = #[] := rfl
        rw [he0]
        simp [strB]
    · exact h.elim
  · exact h.elim
def vConvX (T : Tab) (Γ : Nm → C) (o : Oper) (s d : Nat) (x : Operand) (K : List Nm → List (Nm × C) → Prop) : Prop :=
  match T s with
  | some ⟨.slice _, _, _, _⟩ => vConvS T Γ o s d x K
  | _ => vConv T Γ o s d x K
theorem vConvX_ok {P T Γ nt i o s d x K} (hT : Tok P T) (hd : dOk nt o) (ho : o.op = .convert s d x) (h : vConvX T Γ o s d x K) : Good P nt i o Γ K := by
  unfold vConvX at h
  split at h
  · exact vConvS_ok hT hd ho h
  · exact vConv_ok hT hd ho h
def vCallX (T : Tab) (O : Orc) (Γ : Nm → C) (i : Nat) (o : Oper) (cx : Operand) (ts : List Nat) (xs : List Operand) (K : List Nm → List (Nm × C) → Prop) : Prop :=
  match opX Γ cx with
  | .p (.one (.v (.raw (.func (.func f) ⟨[]⟩ ⟨[]⟩)))) => if O.rx f then (vCallRx T O Γ i o (opR cx) f ts xs K ∨ (O.bx f = true ∧ vCallBx T O Γ i o (opR cx) f ts xs K)) else if O.bx f then vCallBx T O Γ i o (opR cx) f ts xs K else if O.mv f then vCallM T O Γ i o (opR cx) f ts xs K else if O.sx f then vCallS T O Γ i o (opR cx) f ts xs K else vCall T O Γ i o (opR cx) f ts xs K
  | .p (.one (.v (.clo f caps))) => vCallG T O Γ i o (opR cx) f caps ts xs K
  | _ => False
def vCallB (T : Tab) (Γ : Nm → C) (i : Nat) (o : Oper) (b : Builtin) (ts : List Nat) (xs : List Operand) (K : List Nm → List (Nm × C) → Prop) : Prop :=
  match b, ts, xs with
  | .len, [t], [x] => vLen T Γ o t x K
  | .append, [t1, t2], [s, x] => vAppend T Γ i o t1 t2 s x K
  | _, _, _ => False
def vOp (T : Tab) (O : Orc) (nt i : Nat) (Γ : Nm → C) (o : Oper) (K : List Nm → List (Nm × C) → Prop) : Prop :=
  dOk nt o ∧ match o.op with
  | .move x | .assign x => vMoveT T Γ o x K
  | .pick c x y => vPick Γ o c x y K
  | .alloc t => vAlloc T i o t K
  | .box t x => vBox T Γ i o t x K
  | .build t ps => vBuild T Γ o t ps.toList K
  | .buildSlice t n ps => vBuildSlice T Γ i o t n ps.toList K
  | .load t x => vLoad T Γ o t x K
  | .store t p x => vStore T Γ o t p x K
  | .nilCheck x => vNilCheck Γ o x K
  | .binOp op t x y _ => vBin T Γ o op t x y K
  | .unOp op _ x => vUn Γ o op x K
  | .convert s d x => vConvX T Γ o s d x K
  | .makeSlice t l c => vMake T Γ i o t l c K
  | .slice t x lo hi none => match opX Γ x with
    | .p (.one (.sr _)) => vSliceR T Γ i o t x lo hi K
    | _ => vSliceV T Γ o t x lo hi K
  | .slice t x none (some (.const (.int _ 0))) (some (.const (.int _ 0))) => vSliceZ T Γ i o t x K
  | .makeFunc fn first captured => vFuncX O Γ o fn first.toList captured.toList K
  | .makeInterface t x => vIface T Γ o t x K
  | .panic x => vPanic Γ x K
  | .fieldAddr t x f => vFieldAddr T Γ o t x f K
  | .field t x f => vField T Γ o t x f K
  | .indexAddr t x ix => vIndexAddr T Γ o t x ix K
  | .index t x ix => vIndex T Γ o t x ix K
  | .extract x j => vExtract Γ o x j K
  | .call c => match c.callee with
    | .builtin b => vCallB T Γ i o b c.argTypes.toList c.args.toList K
    | .value cx => vCallX T O Γ i o cx c.argTypes.toList c.args.toList K
    | _ => False
  | _ => False
theorem vOp_ok {P T O Γ nt i o K} (hT : Tok P T) (hO : OrcOk P O) (h : vOp T O nt i Γ o K) : Good2 P nt i o Γ K := by
  unfold vOp at h
  obtain ⟨hd, h⟩ := h
  split at h
  · rename_i x ho; exact Good.x (vMoveT_ok hd (.inl ho) h)
  · rename_i x ho; exact Good.x (vMoveT_ok hd (.inr ho) h)
  · rename_i c x y ho; exact Good.x (vPick_ok hd ho h)
  · rename_i t ho; exact Good.x (vAlloc_ok hT hd ho h)
  · rename_i t x ho; exact Good.x (vBox_ok hd ho h)
  · rename_i t ps ho; exact Good.x (vBuild_ok hT hd ho h)
  · rename_i t n ps ho; exact Good.x (vBuildSlice_ok hT hd ho h)
  · rename_i t x ho; exact Good.x (vLoad_ok hT hd ho h)
  · rename_i t p x ho; exact Good.x (vStore_ok hT ho h)
  · rename_i x ho; exact Good.x (vNilCheck_ok hd ho h)
  · rename_i op t x y yt ho; exact Good.x (vBin_ok hT hd ho h)
  · rename_i op t x ho; exact Good.x (vUn_ok hd ho h)
  · rename_i s d x ho; exact Good.x (vConvX_ok hT hd ho h)
  · rename_i t l c ho; exact Good.x (vMake_ok hT hd ho h)
  · rename_i t x lo hi ho
    split at h
    · exact Good.x (vSliceR_ok hT hd ho h)
    · exact Good.x (vSliceV_ok hT hd ho h)
  · rename_i t x k1 k2 ho; exact Good.x (vSliceZ_ok hT hd ho h)
  · rename_i fn first captured ho; exact Good.x (vFuncX_ok hd ho h)
  · rename_i t x ho; exact Good.x (vIface_ok hT hd ho h)
  · rename_i x ho; exact vPanic_ok ho h
  · rename_i t x f ho; exact Good.x (vFieldAddr_ok hT hd ho h)
  · rename_i t x f ho; exact Good.x (vField_ok hT hd ho h)
  · rename_i t x ix ho; exact Good.x (vIndexAddr_ok hT hd ho h)
  · rename_i t x ix ho; exact Good.x (vIndex_ok hT hd ho h)
  · rename_i x j ho; exact Good.x (vExtract_ok hd ho h)
  · rename_i c ho
    split at h
    · rename_i b hc
      unfold vCallB at h
      split at h
      · rename_i ts xs t x hts hxs
        exact Good.x (vLen_ok hT hd ho hc (by rw [← Array.toArray_toList (xs := c.argTypes), hts]) (by rw [← Array.toArray_toList (xs := c.args), hxs]) h)
      · rename_i ts xs t1 t2 s x hts hxs
        exact Good.x (vAppend_ok hT hd ho hc (by rw [← Array.toArray_toList (xs := c.argTypes), hts]) (by rw [← Array.toArray_toList (xs := c.args), hxs]) h)
      · exact h.elim
    · rename_i cx hc
      unfold vCallX at h
      split at h
      · rename_i f hcx
        have key : ∀ (Δ : Nm → C) (a : Act) w g, (∀ n ∈ opR cx, Δ n = Γ n) → Rel Δ nt a w g → a.eval cx = .func (.func f) #[] #[] := fun Δ a w g hr r => by
          have hx := opX_rel r cx
          rw [opX_congr (Γ := Γ) hr, hcx] at hx
          exact (raw_of hx).1
        split at h
        · rcases h with h | ⟨_, h⟩
          · exact vCallRx_ok hO hd ho hc key h
          · exact vCallBx_ok hO hd ho hc key h
        · split at h
          · exact vCallBx_ok hO hd ho hc key h
          · split at h
            · exact Good.x (vCallM_ok hO hd ho hc key h)
            · split at h
              · exact Good.x (vCallS_ok hO hd ho hc key h)
              · exact Good.x (vCall_ok hO hd ho hc key h)
      · rename_i f caps hcx
        refine Good.x (vCallG_ok hO hd ho hc (fun Δ a w g hr r => ?_) h)
        have hx := opX_rel r cx
        rw [opX_congr (Γ := Γ) hr, hcx] at hx
        have hx' : SVR w g.o (a.eval cx) (.clo f caps) := hx
        generalize a.eval cx = u at hx'
        cases hx' with
        | clo _ _ us hu hr' => exact ⟨us, rfl, hu, hr'⟩
      · exact h.elim
    · exact h.elim
  · exact h.elim
/-! ### arguments that point to an own variable: it does not change any more -/
def frzP (t h : Nat) (ss : List SV) (hs : List Nat) : List (Nm × C) := (.t t, .t (.p (.one (.v (.pt ss 0))))) :: (.box h, .none) :: frzW hs
def frzArg (Γ : Nm → C) : List Operand → Option (Nat × Nat × List SV × List Nat)
  | [] => none
  | .tmp t :: r => match Γ (.t t) with
    | .t (.p (.one (.pr h 0))) => match Γ (.box h) with
      | .box _ xs => match frzL Γ xs with
        | some (ss, hs) => some (t, h, ss, hs)
        | none => frzArg Γ r
      | _ => frzArg Γ r
    | _ => frzArg Γ r
  | _ :: r => frzArg Γ r
def opArgs (O : Orc) (o : Oper) : List Operand := match o.op with
  | .call c => match c.callee with
    | .value (.func f) => if O.bx f || O.rx f then [] else c.args.toList
    | _ => c.args.toList
  | .buildSlice _ _ ps => ps.toList.map (·.2)
  | .makeInterface _ x => [x]
  | _ => []
theorem frzArg_some {Γ : Nm → C} {l t h ss hs} (e : frzArg Γ l = some (t, h, ss, hs)) : ∃ ty xs, Γ (.t t) = .t (.p (.one (.pr h 0))) ∧ Γ (.box h) = .box ty xs ∧ frzL Γ xs = some (ss, hs) := by
  induction l with
  | nil => simp [frzArg] at e
  | cons x r ih =>
    cases x with
    | tmp t' =>
      simp only [frzArg] at e
      split at e
      · rename_i h' ht
        split at e
        · rename_i ty xs hb
          split at e
          · rename_i ss' hs' hz
            cases e
            exact ⟨ty, xs, ht, hb, hz⟩
          · exact ih e
        · exact ih e
      · exact ih e
    | _ => simp only [frzArg] at e; exact ih e
theorem Unm.frzP {Γ : Nm → C} {k t h ss hs} (u : Unm Γ k) : Unm (ups Γ (frzP t h ss hs)) k := fun n => by
  simp only [Go.Proofs.YtdpflafjfkooeaaGreatDoorG.frzP, ups]
  by_cases e1 : n = .t t
  · subst e1; rw [up_same]; exact ⟨by simp [C.ment, X.ment, PX.ment, TV.ment], fun hm => by simp [Nm.ment] at hm⟩
  · rw [up_ne e1]
    by_cases e2 : n = .box h
    · subst e2; rw [up_same]; exact ⟨by simp [C.ment], fun _ => rfl⟩
    · rw [up_ne e2]; exact u.frzW n
theorem frzP_rel {Γ Δ : Nm → C} {nt a w g t h ss hs ty xs} (r : Rel Δ nt a w g) (e1 : Γ (.t t) = .t (.p (.one (.pr h 0)))) (e2 : Γ (.box h) = .box ty xs) (e3 : frzL Γ xs = some (ss, hs))
    (hr : ∀ n ∈ Nm.t t :: .box h :: hs.map .row, Δ n = Γ n) : Rel (ups Δ (frzP t h ss hs)) nt a w ((g.frz hs).frb h) ∧ Fr w w g.o ((g.frz hs).frb h).o := by
  have hx0 := r.tmp (i := t) (by rw [hr _ (by simp), e1])
  have hx : a.tmps.getD t undef = .pointer (some ⟨g.bk h, 0, none⟩) := hx0
  obtain ⟨cur, q1, q2, q3⟩ := r.box (h := h) (by rw [hr _ (by simp), e2])
  have q4 := frzL_rel (hs := hs) r e3 (fun k hk => hr _ (by simp [hk])) (fun _ h => h) q3
  have hq2 : ((g.frz hs).frb h).o (g.bk h) = .imm := by simp [Gh.frb, Gh.frz, q2]
  have hp : SVR w ((g.frz hs).frb h).o (a.tmps.getD t undef) (.pt ss 0) := by
    rw [hx]
    refine SVR.pt (g.bk h) 0 0 ss cur.toList hq2 (by have := q4.1; simpa using this) (fun j u hj => ?_) fun j u x a b => frb_svr (q4.2 j u x a b)
    rw [Nat.zero_add]
    exact cell_of_cells q1 (by simpa using hj)
  have r2 := ((r.frz hs).frb h).upd (n := .t t) (c := .t (.p (.one (.v (.pt ss 0))))) (by exact hp)
  exact ⟨r2, (Fr.frz w g hs).trans (Fr.frb w (g.frz hs) h)⟩
def vOpF (T : Tab) (O : Orc) (nt i : Nat) (Γ : Nm → C) (o : Oper) (K : List Nm → List (Nm × C) → Prop) : Prop :=
  match frzArg Γ (opArgs O o) with
  | none => vOp T O nt i Γ o K
  | some (t, h, ss, hs) => vOp T O nt i (ups Γ (frzP t h ss hs)) o fun rd wr => K (.t t :: .box h :: (hs.map .row ++ rd)) (wr ++ frzP t h ss hs)
theorem panV_app {wr wr' : List (Nm × C)} (h : panV wr' = none) : panV (wr ++ wr') = panV wr := by
  cases wr with
  | nil => exact h
  | cons p wr => obtain ⟨n, c⟩ := p; cases c <;> rfl
theorem vOpF_ok {P T O Γ nt i o K} (hT : Tok P T) (hO : OrcOk P O) (h : vOpF T O nt i Γ o K) : Good2 P nt i o Γ K := by
  unfold vOpF at h
  split at h
  · exact vOp_ok hT hO h
  · rename_i t hh ss hs he
    obtain ⟨ty, xs, e1, e2, e3⟩ := frzArg_some he
    obtain ⟨rd, wr, h1, h2⟩ := vOp_ok (P := P) hT hO h
    refine ⟨_, _, ?_, h2⟩
    have hpv : panV (wr ++ frzP t hh ss hs) = panV wr := panV_app rfl
    have hrel : ∀ {Δ : Nm → C} {a w g}, (∀ n ∈ Nm.t t :: .box hh :: (hs.map .row ++ rd), Δ n = Γ n) → Rel Δ nt a w g → Rel (ups Δ (frzP t hh ss hs)) nt a w ((g.frz hs).frb hh) ∧ Fr w w g.o ((g.frz hs).frb hh).o := fun hr r =>
      frzP_rel r e1 e2 e3 fun n hn => hr n (by simp only [List.mem_cons, List.mem_append] at hn ⊢; rcases hn with hn | hn | hn <;> simp [hn])
    have hrd : ∀ {Δ : Nm → C}, (∀ n ∈ Nm.t t :: .box hh :: (hs.map .row ++ rd), Δ n = Γ n) → ∀ n ∈ rd, ups Δ (frzP t hh ss hs) n = ups Γ (frzP t hh ss hs) n := fun hr n hn => by
      by_cases hm : n ∈ (frzP t hh ss hs).map (·.1)
      · exact ups_in hm
      · rw [ups_notin hm, ups_notin hm]
        exact hr n (by simp [hn])
    unfold ActX at h1 ⊢
    rw [hpv]
    split at h1
    · intro Δ a w g Q K' hr hu r hk
      obtain ⟨r2, f2⟩ := hrel hr r
      exact h1 (ups Δ (frzP t hh ss hs)) a w _ Q K' (hrd hr) (fun k hk => (hu k hk).frzP) r2 fun w' g' t' f' => hk w' g' t' (f2.trans f')
    · intro Δ a w g Q K' hr hu r hk
      obtain ⟨r2, f2⟩ := hrel hr r
      exact h1 (ups Δ (frzP t hh ss hs)) a w _ Q K' (hrd hr) (fun k hk => (hu k hk).frzP) r2 fun a' w' g' r' f' => hk a' w' g' (by rw [ups_append]; exact r') (f2.trans f')
theorem vOpF_nd {T O nt i Γ o K} (h : vOpF T O nt i Γ o K) : ∀ c, o.op ≠ .defer c := fun c hc => by
  unfold vOpF at h
  split at h <;> (unfold vOp at h; rw [hc] at h; exact h.2)
/-! ### one step of a region -/
/-- No fence but the round. -/
def RF (ro : Option Nat) : Fence := { Fence.wide with round := ro }
/-- The activation with its deferred calls. -/
def shA (ds : List Deferred) (a : Act) : Act := { a with defers := ds }
theorem shA_eval (ds a) : (shA ds a).eval = a.eval := by funext x; cases x <;> rfl
theorem shA_put (ds a d v) : shA ds (Act.put a d v) = (shA ds a).put d v := by cases d <;> rfl
theorem callsIn_RF {ro n P f args w R} : CallsIn (RF ro) n P f args w R ↔ Calls P f args w R := callsIn_wide (n := n)
theorem rowsIn_RF {ro n P row args w R} (h : Go.Rows P row args w R) : RowsIn (RF ro) n P row args w R := fun c cs _ => by
  obtain ⟨v, w', r, s⟩ := h c cs
  exact ⟨v, w', r, (stepsIn_wide (P := P)).2 s⟩
theorem wp_in {P : Program} {o : Oper} {a : Act} {w : World} {K : Act → World → Prop} {ro ds K' Q} (hnd : ∀ c, o.op ≠ .defer c) (h : o.wp P a w K fun _ _ _ => False) (hdf : ∀ a' w', K a' w' → a'.defers = []) (hk : ∀ v w', K (a.put o.dst v) w' → K' (shA ds (a.put o.dst v)) w') :
    o.wpIn (RF ro) 0 P (shA ds a) w K' Q := by
  refine ⟨fun _ _ => trivial, ?_⟩
  rw [Oper.semAt_eq _ _ _ hnd, shA_eval]
  unfold Oper.wp at h
  generalize (execOp a.eval o).run P w = r at h ⊢
  cases r with
  | ok n w' =>
    cases n with
    | value v => show K' ((shA ds a).put o.dst v) w'; rw [← shA_put]; exact hk v w' h
    | skip => show K' ((shA ds a).put o.dst undef) w'; rw [← shA_put]; exact hk undef w' h
    | defer d => have := hdf _ _ h; cases hd : o.dst <;> simp [Act.put, hd] at this
    | enter f args =>
      refine ⟨fun hh => by simp [RF, Fence.wide] at hh, callsIn_RF.2 (Calls.mono h fun e w'' he => ?_)⟩
      cases e with
      | returned v => show K' ((shA ds a).put o.dst v) w''; rw [← shA_put]; exact hk v w'' he
      | panicked c => exact he.elim
      | outgrown => obtain ⟨_, _, q⟩ := he; exact q.elim
    | row row args => exact ⟨fun hh => by simp [RF, Fence.wide] at hh, rowsIn_RF (Go.Rows.mono h fun v w'' he => by rw [← shA_put]; exact hk v w'' he)⟩
    | _ => exact h.elim
  | halt x w' => cases x <;> exact h.elim
def dstAt (ops : Array Oper) (i : Nat) : Option Nat := (ops[i]?).bind (·.dst)
def StepOk (P : Program) (nt : Nat) (ops : Array Oper) (i : Nat) (Γ : Nm → C) (rd : List Nm) (wr : List (Nm × C)) : Prop :=
  ∀ (ro : Option Nat) (ds : List Deferred) (Δ : Nm → C) (a : Act) (w : World) (g : Gh) (Q : Exit → Act → World → Prop) (K : Act → World → Prop), (∀ n ∈ rd, Δ n = Γ n) → (∀ k, isTh i k → Unm Δ k) → Rel Δ nt a w g →
    (∀ v w' g', Rel (ups Δ wr) nt (a.put (dstAt ops i) v) w' g' → Fr w w' g.o g'.o → K (shA ds (a.put (dstAt ops i) v)) w') → wpOpIn (RF ro) 0 P ops Q i K (shA ds a) w
def vStep (T : Tab) (O : Orc) (nt : Nat) (ops : List Oper) (i : Nat) (o : Oper) (Γ : Nm → C) (K : List Nm → List (Nm × C) → Prop) : Prop :=
  match o.guard with
  | none => vOpF T O nt i Γ o K
  | some (j, want) => match (ops[j]?).bind (·.dst) with
    | some tg => match Γ (.t tg) with
      | .t (.p (.one (.v (.raw (.bool b))))) => if b = want then vOpF T O nt i Γ o fun rd wr => K (.t tg :: rd) wr else dOk nt o ∧ K [.t tg] (putT o.dst (.tup []))
      | .t (.tup []) => dOk nt o ∧ K [.t tg] (putT o.dst (.tup []))
      | _ => False
    | none => False
theorem actOk_in {P nt i o Γ rd wr} (hnd : ∀ c, o.op ≠ .defer c) (h : ActOk P nt i o Γ rd wr) (ro ds) {Δ a w g} {Q : Exit → Act → World → Prop} {K : Act → World → Prop} (hr : ∀ n ∈ rd, Δ n = Γ n) (hu : ∀ k, isTh i k → Unm Δ k) (r : Rel Δ nt a w g)
    (hk : ∀ v w' g', Rel (ups Δ wr) nt (a.put o.dst v) w' g' → Fr w w' g.o g'.o → K (shA ds (a.put o.dst v)) w') : o.wpIn (RF ro) 0 P (shA ds a) w K Q :=
  wp_in (K := fun a' w' => ∃ g', Rel (ups Δ wr) nt a' w' g' ∧ Fr w w' g.o g'.o) hnd (h Δ a w g _ _ hr hu r fun a' w' g' r' f' => ⟨g', r', f'⟩) (fun a' w' ⟨g', r', _⟩ => r'.df) fun v w' ⟨g', r', f'⟩ => hk v w' g' r' f'
/-- A step that panics. -/
def StepPan (P : Program) (nt : Nat) (ops : Array Oper) (i : Nat) (Γ : Nm → C) (rd : List Nm) (v : Value) : Prop :=
  ∀ (ro : Option Nat) (ds : List Deferred) (Δ : Nm → C) (a : Act) (w : World) (g : Gh) (Q : Exit → Act → World → Prop) (K : Act → World → Prop), (∀ n ∈ rd, Δ n = Γ n) → (∀ k, isTh i k → Unm Δ k) → Rel Δ nt a w g →
    (∀ (w' : World) (g' : Gh), (∀ b, g'.o b ≠ .other → b < w'.heap.size) → Fr w w' g.o g'.o → Q (.panic [{ v := v, recovered := false }]) (shA ds a) w') → wpOpIn (RF ro) 0 P ops Q i K (shA ds a) w
theorem pan_in {P nt i o Γ rd v} (hnd : ∀ c, o.op ≠ .defer c) (h : PanOk P nt i o Γ rd v) (ro ds) {Δ a w g} {Q : Exit → Act → World → Prop} {K : Act → World → Prop} (hr : ∀ n ∈ rd, Δ n = Γ n) (hu : ∀ k, isTh i k → Unm Δ k) (r : Rel Δ nt a w g)
    (hk : ∀ (w' : World) (g' : Gh), (∀ b, g'.o b ≠ .other → b < w'.heap.size) → Fr w w' g.o g'.o → Q (.panic [{ v := v, recovered := false }]) (shA ds a) w') : o.wpIn (RF ro) 0 P (shA ds a) w K Q := by
  refine ⟨fun _ _ => trivial, ?_⟩
  rw [Oper.semAt_eq _ _ _ hnd, shA_eval]
  have h := h Δ a w g (fun e a' w' => e = .panic [{ v := v, recovered := false }] ∧ a' = a ∧ ∃ g' : Gh, (∀ b, g'.o b ≠ .other → b < w'.heap.size) ∧ Fr w w' g.o g'.o) (fun _ _ => False) hr hu r fun w' g' t f => ⟨rfl, rfl, g', t, f⟩
  unfold Oper.wp at h
  generalize (execOp a.eval o).run P w = res at h ⊢
  cases res with
  | ok n w' =>
    cases n with
    | enter f args =>
      refine ⟨fun hh => by simp [RF, Fence.wide] at hh, callsIn_RF.2 (Calls.mono h fun e w'' he => ?_)⟩
      cases e with
      | returned v => exact he.elim
      | panicked c => obtain ⟨e, _, g', t, f⟩ := he; cases e; exact hk _ g' t f
      | outgrown => obtain ⟨_, _, q⟩ := he; cases q.1
    | row row args => exact ⟨fun hh => by simp [RF, Fence.wide] at hh, rowsIn_RF (Go.Rows.mono h fun v w'' he => he.elim)⟩
    | _ => exact h.elim
  | halt x w' => cases x with
    | panic u => obtain ⟨e, _, g', t, f⟩ := h; cases e; exact hk _ g' t f
    | _ => exact h.elim
/-- What a step comes to. -/
def StepX (P : Program) (nt : Nat) (ops : Array Oper) (i : Nat) (Γ : Nm → C) (rd : List Nm) (wr : List (Nm × C)) : Prop :=
  match panV wr with
  | some v => StepPan P nt ops i Γ rd v
  | none => StepOk P nt ops i Γ rd wr
theorem StepOk.x {P nt ops i Γ rd wr} (h : StepOk P nt ops i Γ rd wr) : StepX P nt ops i Γ rd wr := by
  unfold StepX
  split
  · rename_i v hv
    exact fun ro ds Δ a w g Q K hr hu r _ => h ro ds Δ a w g Q K hr hu r fun v w' g' r' _ => (panV_none hv r').elim
  · exact h
theorem StepPan.x {P nt ops i Γ rd wr v} (h : StepPan P nt ops i Γ rd v) (hv : panV wr = some v) : StepX P nt ops i Γ rd wr := by
  unfold StepX
  rw [hv]
  exact h
theorem vStep_ok {P T O nt} {ops : Array Oper} {i o Γ K} (hT : Tok P T) (hO : OrcOk P O) (hi : ops[i]? = some o) (h : vStep T O nt ops.toList i o Γ K) : ∃ rd wr, StepX P nt ops i Γ rd wr ∧ K rd wr := by
  have hdst : dstAt ops i = o.dst := by simp [dstAt, hi]
  unfold vStep at h
  split at h
  · rename_i hg
    obtain ⟨rd, wr, h1, h2⟩ := vOpF_ok (P := P) hT hO h
    refine ⟨rd, wr, ?_, h2⟩
    have e : ∀ (a : Act), Region.wanted o (yielded ops a.tmps) = true := fun a => by simp [Region.wanted, hg]
    unfold ActX at h1
    unfold StepX
    split at h1
    · rename_i v hv
      rw [hv]
      intro ro ds Δ a w g Q K' hr hu r hk
      unfold wpOpIn
      simp only [hi]
      rw [if_pos (e _)]
      exact pan_in (vOpF_nd h) h1 ro ds hr hu r hk
    · rename_i hv
      rw [hv]
      intro ro ds Δ a w g Q K' hr hu r hk
      unfold wpOpIn
      simp only [hi]
      rw [if_pos (e _)]
      rw [hdst] at hk
      exact actOk_in (vOpF_nd h) h1 ro ds hr hu r hk
  · rename_i j want hg
    split at h
    · rename_i tg htg
      split at h
      · rename_i b hb
        have hyield : ∀ (Δ : Nm → C) (a : Act) w g, Δ (.t tg) = Γ (.t tg) → Rel Δ nt a w g → Region.wanted o (yielded ops a.tmps) = (b == want) := fun Δ a w g he r => by
          have hx := r.tmp (i := tg) (by rw [he, hb])
          have hv := (raw_of hx).1
          have hgd : a.tmps[tg]? = some (.bool b) := by
            simp only [Array.getD_eq_getD_getElem?] at hv
            cases hq : a.tmps[tg]? with
            | none => simp [hq, undef] at hv
            | some v => simp [hq] at hv; rw [hv]
          have htg' : (ops[j]?).bind (·.dst) = some tg := by simpa using htg
          have hy : yielded ops a.tmps j = some b := by
            unfold yielded
            rw [htg']
            simp [hgd]
          simp only [Region.wanted, hg, hy]
          cases b <;> cases want <;> rfl
        split at h
        · rename_i hbw
          subst hbw
          obtain ⟨rd, wr, h1, h2⟩ := vOpF_ok (P := P) hT hO h
          refine ⟨_, wr, ?_, h2⟩
          unfold ActX at h1
          unfold StepX
          split at h1
          · rename_i v hv
            rw [hv]
            intro ro ds Δ a w g Q K' hr hu r hk
            unfold wpOpIn
            simp only [hi]
            rw [if_pos (by show Region.wanted o (yielded ops a.tmps) = true; rw [hyield Δ a w g (hr _ (by simp)) r]; simp)]
            exact pan_in (vOpF_nd h) h1 ro ds (fun n hn => hr n (by simp [hn])) hu r hk
          · rename_i hv
            rw [hv]
            intro ro ds Δ a w g Q K' hr hu r hk
            unfold wpOpIn
            simp only [hi]
            rw [if_pos (by show Region.wanted o (yielded ops a.tmps) = true; rw [hyield Δ a w g (hr _ (by simp)) r]; simp)]
            rw [hdst] at hk
            exact actOk_in (vOpF_nd h) h1 ro ds (fun n hn => hr n (by simp [hn])) hu r hk
        · rename_i hbw
          obtain ⟨hd, h⟩ := h
          refine ⟨_, _, StepOk.x fun ro ds Δ a w g Q K' hr hu r hk => ?_, h⟩
          unfold wpOpIn
          simp only [hi]
          rw [if_neg (by show ¬ Region.wanted o (yielded ops a.tmps) = true; rw [hyield Δ a w g (hr _ (by simp)) r]; simpa using hbw)]
          rw [hdst] at hk
          exact ⟨fun _ _ => trivial, by rw [← shA_put]; exact hk undef _ g (rel_putT hd r ⟨#[], rfl, .nil⟩) (Fr.refl _ _)⟩
      · rename_i hb
        obtain ⟨hd, h⟩ := h
        refine ⟨_, _, StepOk.x fun ro ds Δ a w g Q K' hr hu r hk => ?_, h⟩
        have hx := r.tmp (i := tg) (by rw [hr _ (by simp), hb])
        obtain ⟨vs, hv, hall⟩ := hx
        have hvs : vs = #[] := by
          have := hall.1; simp at this; exact this
        subst hvs
        have htg' : (ops[j]?).bind (·.dst) = some tg := by simpa using htg
        have hy : yielded ops a.tmps j = none := by
          unfold yielded
          rw [htg']
          simp only [Array.getD_eq_getD_getElem?] at hv
          cases hq : a.tmps[tg]? with
          | none => simp [hq]
          | some v => simp [hq] at hv; simp [hq, hv]
        unfold wpOpIn
        simp only [hi]
        rw [if_neg (by show ¬ Region.wanted o (yielded ops a.tmps) = true; simp [Region.wanted, hg, hy])]
        rw [hdst] at hk
        exact ⟨fun _ _ => trivial, by rw [← shA_put]; exact hk undef _ g (rel_putT hd r ⟨#[], rfl, .nil⟩) (Fr.refl _ _)⟩
      · exact h.elim
    · exact h.elim
/-! ### states as lists -/
def look : List (Nm × C) → Nm → C
  | [], _ => .none
  | (m, c) :: r, n => if n = m then c else look r n
theorem look_append (wr G : List (Nm × C)) : look (wr ++ G) = ups (look G) wr := by
  induction wr with
  | nil => rfl
  | cons p wr ih =>
    funext n
    obtain ⟨m, c⟩ := p
    show (if n = m then c else look (wr ++ G) n) = up (ups (look G) wr) m c n
    rw [ih]; rfl
abbrev Acts := List (List Nm × List (Nm × C))
/-- K's first argument: the panic at which the region ends. -/
def vOps (T : Tab) (O : Orc) (nt : Nat) (ops : List Oper) : Nat → List Oper → List (Nm × C) → Acts → (Option Value → List (Nm × C) → Acts → Prop) → Prop
  | _, [], G, log, K => K none G log
  | i, o :: r, G, log, K => vStep T O nt ops i o (look G) fun rd wr => match panV wr with
    | some v => K (some v) G (log ++ [(rd, [])])
    | none => vOps T O nt ops (i + 1) r (wr ++ G) (log ++ [(rd, wr)]) K
/-- The actions of a region, in the text's order. -/
inductive Chain (P : Program) (nt : Nat) (ops : Array Oper) : Nat → List (Nm × C) → Acts → List (Nm × C) → Prop
  | nil (i G) : Chain P nt ops i G [] G
  | cons (i G rd wr acts G') (h : StepOk P nt ops i (look G) rd wr) (t : Chain P nt ops (i + 1) (wr ++ G) acts G') : Chain P nt ops i G ((rd, wr) :: acts) G'
theorem vOps_ok {P T O nt} {ops : Array Oper} (hT : Tok P T) (hO : OrcOk P O) : ∀ {r : List Oper} {i G log K}, (∀ j, r[j]? = ops[i + j]?) → vOps T O nt ops.toList i r G log K →
    (∃ acts G', acts.length = r.length ∧ Chain P nt ops i G acts G' ∧ K none G' (log ++ acts)) ∨
    ∃ acts G' rd v, acts.length < r.length ∧ Chain P nt ops i G acts G' ∧ StepPan P nt ops (i + acts.length) (look G') rd v ∧ K (some v) G' (log ++ (acts ++ [(rd, [])])) := by
  intro r
  induction r with
  | nil => intro i G log K _ h; exact .inl ⟨[], G, rfl, .nil _ _, by simpa [vOps] using h⟩
  | cons o r ih =>
    intro i G log K hr h
    simp only [vOps] at h
    obtain ⟨rd, wr, h1, h2⟩ := vStep_ok (P := P) hT hO (by have := hr 0; simpa using this.symm) h
    unfold StepX at h1
    split at h1
    · rename_i v hv
      rw [hv] at h2
      exact .inr ⟨[], G, rd, v, by simp, .nil _ _, h1, by simpa using h2⟩
    · rename_i hv
      rw [hv] at h2
      rcases ih (i := i + 1) (fun j => by have := hr (j + 1); simpa [Nat.add_assoc, Nat.add_comm 1 j] using this) h2 with ⟨acts, G', e1, e2, e3⟩ | ⟨acts, G', rd', v, e1, e2, e3, e4⟩
      · exact .inl ⟨(rd, wr) :: acts, G', by simp [e1], .cons _ _ _ _ _ _ h1 e2, by simpa using e3⟩
      · exact .inr ⟨(rd, wr) :: acts, G', rd', v, by simp; exact e1, .cons _ _ _ _ _ _ h1 e2, by simp only [List.length_cons]; rw [show i + (acts.length + 1) = i + 1 + acts.length by omega]; exact e3, by simpa using e4⟩
end Go.Proofs.YtdpflafjfkooeaaGreatDoorG
/- G11: regions, in whatever order they are run. -/
namespace Go.Proofs.YtdpflafjfkooeaaGreatDoorG
open Go Go.RowKit
set_option linter.unusedVariables false
set_option linter.unusedSimpArgs false
/-! ### what is checked of a region's actions -/
def TV.homes : TV → List Nat
  | .sr h | .pr h _ | .er h _ => [h]
  | .cb _ hs => hs
  | _ => []
def PX.homes : PX → List Nat
  | .one x => x.homes
  | .agg xs => xs.flatMap TV.homes
def X.homes : X → List Nat
  | .p x => x.homes
  | .tup xs => xs.flatMap PX.homes
def C.homes : C → List Nat
  | .t x => x.homes
  | .box _ xs => xs.flatMap TV.homes
  | _ => []
def Nm.homes : Nm → List Nat
  | .row h | .box h => [h]
  | _ => []
theorem TV.ment_homes {x : TV} {k} (h : x.ment k) : k ∈ x.homes := by cases x <;> simp_all [TV.ment, TV.homes]
theorem PX.ment_homes {x : PX} {k} (h : x.ment k) : k ∈ x.homes := by
  cases x with
  | one x => exact TV.ment_homes h
  | agg xs => obtain ⟨y, hy, hk⟩ := h; exact List.mem_flatMap.2 ⟨y, hy, TV.ment_homes hk⟩
theorem X.ment_homes {x : X} {k} (h : x.ment k) : k ∈ x.homes := by
  cases x with
  | p x => exact PX.ment_homes h
  | tup xs => obtain ⟨y, hy, hk⟩ := h; exact List.mem_flatMap.2 ⟨y, hy, PX.ment_homes hk⟩
theorem C.ment_homes {x : C} {k} (h : x.ment k) : k ∈ x.homes := by
  cases x with
  | t x => exact X.ment_homes h
  | box ty xs => obtain ⟨y, hy, hk⟩ := h; exact List.mem_flatMap.2 ⟨y, hy, TV.ment_homes hk⟩
  | _ => exact absurd h (by simp [C.ment])
theorem Nm.ment_homes {x : Nm} {k} (h : x.ment k) : k ∈ x.homes := by cases x <;> simp_all [Nm.ment, Nm.homes]
def maskOf (acc : List Nat) (es : List Edge) (s : Nat) : Nat := es.foldl (fun s e => if Region.binds .any e then s ||| 2 ^ e.on ||| acc.getD e.on 0 else s) s
def masks : List Oper → List Nat → List Nat
  | [], acc => acc
  | o :: r, acc => masks r (acc ++ [maskOf acc o.after.toList 0])
def edgesOk : Nat → List Oper → Bool
  | _, [] => true
  | i, o :: r => (o.after.toList.all fun e => !Region.binds .any e || decide (e.on < i)) && edgesOk (i + 1) r
def homeOk (m j h : Nat) : Bool := decide (h < 1000000) || decide ((h - 1000000) / 100 = j) || m.testBit ((h - 1000000) / 100)
def mentOk (ms : List Nat) : Nat → Acts → Bool
  | _, [] => true
  | j, (rd, wr) :: r => (wr.all fun p => (p.1.homes ++ p.2.homes).all (homeOk (ms.getD j 0) j)) && mentOk ms (j + 1) r
def hit (xs ys : List Nm) : Bool := xs.any fun x => ys.any fun y => decide (x = y)
def clash (a b : List Nm × List (Nm × C)) : Bool := hit (a.2.map (·.1)) (b.2.map (·.1)) || hit (a.2.map (·.1)) b.1 || hit a.1 (b.2.map (·.1))
/-- act j against those behind it: i, i + 1, .. -/
def apart1 (ms : List Nat) (j : Nat) (a : List Nm × List (Nm × C)) : Nat → Acts → Bool
  | _, [] => true
  | i, b :: r => ((ms.getD i 0).testBit j || !clash a b) && apart1 ms j a (i + 1) r
def apartAll (ms : List Nat) : Nat → Acts → Bool
  | _, [] => true
  | j, a :: r => apart1 ms j a (j + 1) r && apartAll ms (j + 1) r
def noTemp (G : List (Nm × C)) : Bool := G.all fun p => (p.1.homes ++ p.2.homes).all fun h => decide (h < 1000000)
def regOk (ops : List Oper) (draw : Bool) (G : List (Nm × C)) (acts : Acts) : Bool :=
  noTemp G && edgesOk 0 ops && mentOk (masks ops []) 0 acts && (!draw || apartAll (masks ops []) 0 acts)
/-! ### masks: all that must be ahead -/
theorem maskOf_bit {acc : List Nat} {j : Nat} : ∀ {es : List Edge} {s : Nat}, (maskOf acc es s).testBit j = true → s.testBit j = true ∨ ∃ e ∈ es, Region.binds .any e = true ∧ (j = e.on ∨ (acc.getD e.on 0).testBit j = true)
  | [], s, h => .inl h
  | e :: es, s, h => by
    simp only [maskOf, List.foldl_cons] at h
    rcases maskOf_bit (es := es) h with h1 | ⟨e', he', h1⟩
    · split at h1
      · rename_i hb
        rw [Nat.testBit_or, Nat.testBit_or, Nat.testBit_two_pow] at h1
        simp only [Bool.or_eq_true, decide_eq_true_eq] at h1
        rcases h1 with (h1 | h1) | h1
        · exact .inl h1
        · exact .inr ⟨e, by simp, hb, .inl h1.symm⟩
        · exact .inr ⟨e, by simp, hb, .inr h1⟩
      · exact .inl h1
    · exact .inr ⟨e', by simp [he'], h1⟩
theorem masks_pre : ∀ (r : List Oper) (acc : List Nat) (k : Nat), k < acc.length → (masks r acc).getD k 0 = acc.getD k 0
  | [], acc, k, h => rfl
  | o :: r, acc, k, h => by
    rw [masks, masks_pre r _ k (by simp; omega)]
    simp [List.getD, List.getElem?_append_left h]
theorem masks_at : ∀ (r : List Oper) (acc : List Nat) (k : Nat) (o : Oper), r[k]? = some o → ∃ acc' : List Nat, (∀ j, j < acc.length + k → acc'.getD j 0 = (masks r acc).getD j 0) ∧ (∀ j, acc.length + k ≤ j → acc'.getD j 0 = 0) ∧ (masks r acc).getD (acc.length + k) 0 = maskOf acc' o.after.toList 0
  | [], acc, k, o, h => by simp at h
  | o :: r, acc, 0, o', h => by
    simp at h; subst h
    refine ⟨acc, fun j hj => ?_, fun j hj => by simp [List.getD, List.getElem?_eq_none hj], ?_⟩
    · rw [masks, masks_pre r _ j (by simp; omega)]
      simp [List.getD, List.getElem?_append_left hj]
    · rw [masks, masks_pre r _ _ (by simp)]
      simp [List.getD]
  | o :: r, acc, k + 1, o', h => by
    obtain ⟨acc', h1, h2, h3⟩ := masks_at r (acc ++ [maskOf acc o.after.toList 0]) k o' (by simpa using h)
    simp only [List.length_append, List.length_cons, List.length_nil] at h1 h2 h3
    rw [show acc.length + (k + 1) = acc.length + (0 + 1) + k by omega]
    exact ⟨acc', h1, h2, h3⟩
section
variable {ops : Array Oper} (D : Nat → Bool)
/-- D is closed under what must be ahead. -/
def Closed (ops : Array Oper) (D : Nat → Bool) : Prop := ∀ k o, ops[k]? = some o → D k = true → ∀ e ∈ o.after.toList, Region.binds .any e = true → D e.on = true
theorem closed_mask {D} (hc : Closed ops D) : ∀ (k : Nat) (o : Oper), ops[k]? = some o → (∀ e ∈ o.after.toList, Region.binds .any e = true → D e.on = true) → ∀ j, ((masks ops.toList []).getD k 0).testBit j = true → D j = true := by
  intro k
  induction k using Nat.strongRecOn with
  | _ k ih =>
    intro o ho hr j hj
    obtain ⟨acc', h1, h2, h3⟩ := masks_at ops.toList [] k o (by simpa using ho)
    simp only [List.length_nil, Nat.zero_add] at h1 h2 h3
    rw [h3] at hj
    rcases maskOf_bit hj with hb | ⟨e, he, hb, hje⟩
    · simp at hb
    · have hde := hr e he hb
      rcases hje with rfl | hbit
      · exact hde
      · by_cases hlt : e.on < k
        · rw [h1 e.on hlt] at hbit
          cases hoe : ops[e.on]? with
          | none =>
            obtain ⟨hs, _⟩ := Array.getElem?_eq_some_iff.1 ho
            have : ops.size ≤ e.on := by simpa using hoe
            omega
          | some o' => exact ih e.on hlt o' hoe (fun e' he' hb' => hc e.on o' hoe hde e' he' hb') j hbit
        · rw [h2 e.on (by omega)] at hbit; simp at hbit
end
/-! ### states by what has been done -/
def actAt (acts : Acts) (j : Nat) : List Nm × List (Nm × C) := acts.getD j ([], [])
def nms (a : List Nm × List (Nm × C)) : List Nm := a.2.map (·.1)
section
variable (Γ0 : Nm → C) (acts : Acts) (D D' : Nat → Bool)
def valK : Nat → Nm → C
  | 0, n => Γ0 n
  | k + 1, n => if D k = true ∧ n ∈ nms (actAt acts k) then ups Γ0 (actAt acts k).2 n else valK k n
def tst : Nat → Nm → C
  | 0 => Γ0
  | k + 1 => ups (tst k) (actAt acts k).2
theorem tst_val (k : Nat) : tst Γ0 acts k = valK Γ0 acts (fun _ => true) k := by
  induction k with
  | zero => rfl
  | succ k ih =>
    funext n
    rw [tst, valK, ih]
    by_cases h : n ∈ nms (actAt acts k)
    · rw [if_pos ⟨rfl, h⟩]; exact ups_in h
    · rw [if_neg (by simp [h])]; exact ups_notin h
theorem val_congr (k : Nat) (n : Nm) (h : ∀ j, j < k → n ∈ nms (actAt acts j) → D j = D' j) : valK Γ0 acts D k n = valK Γ0 acts D' k n := by
  induction k with
  | zero => rfl
  | succ k ih =>
    rw [valK, valK, ih fun j hj => h j (by omega)]
    by_cases hn : n ∈ nms (actAt acts k)
    · rw [h k (by omega) hn]
    · simp [hn]
theorem val_skip (k m : Nat) (n : Nm) (hk : k ≤ m) (h : ∀ j, k ≤ j → j < m → n ∈ nms (actAt acts j) → D j = false) : valK Γ0 acts D m n = valK Γ0 acts D k n := by
  induction m with
  | zero => have : k = 0 := by omega
            rw [this]
  | succ m ih =>
    by_cases e : k = m + 1
    · rw [e]
    · rw [valK, if_neg, ih (by omega) fun j h1 h2 => h j h1 (by omega)]
      rintro ⟨h1, h2⟩
      have := h m (by omega) (by omega) h2
      rw [this] at h1; cases h1
/-- The text's state at i, at a name whose writers are the same. -/
theorem val_text (i N : Nat) (n : Nm) (hi : i ≤ N) (h : ∀ j, j < N → n ∈ nms (actAt acts j) → D j = decide (j < i)) : valK Γ0 acts D N n = tst Γ0 acts i n := by
  rw [tst_val, val_skip Γ0 acts D i N n hi fun j h1 h2 h3 => by rw [h j h2 h3]; simp; omega]
  exact val_congr Γ0 acts D _ i n fun j h1 h2 => by rw [h j (by omega) h2]; simp; omega
theorem val_ins (i N : Nat) (hi : i < N) (n : Nm) (hd : ∀ j, D' j = (decide (j = i) || D j)) (h : ∀ j, j < N → D j = true → n ∈ nms (actAt acts j) → n ∈ nms (actAt acts i) → j < i) :
    valK Γ0 acts D' N n = ups (valK Γ0 acts D N) (actAt acts i).2 n := by
  by_cases hn : n ∈ nms (actAt acts i)
  · rw [ups_in (Γ' := Γ0) hn, val_skip Γ0 acts D' (i + 1) N n (by omega) fun j h1 h2 h3 => ?_, valK, if_pos ⟨by simp [hd], hn⟩]
    rw [hd]
    cases hdj : D j with
    | true => have := h j h2 hdj h3 hn; omega
    | false => simp; omega
  · rw [ups_notin hn]
    exact val_congr Γ0 acts D' D N n fun j h1 h2 => by
      rw [hd]
      have : j ≠ i := fun e => hn (e ▸ h2)
      simp [this]
end
theorem chain_at {P nt} {ops : Array Oper} : ∀ {acts : Acts} {i G G'}, Chain P nt ops i G acts G' → (∀ j, j < acts.length → StepOk P nt ops (i + j) (tst (look G) acts j) (actAt acts j).1 (actAt acts j).2) ∧ look G' = tst (look G) acts acts.length := by
  intro acts
  induction acts with
  | nil => intro i G G' h; cases h; exact ⟨fun j hj => by simp at hj, rfl⟩
  | cons a acts ih =>
    intro i G G' h
    cases h with
    | cons _ _ rd wr _ _ h1 h2 =>
      obtain ⟨e1, e2⟩ := ih h2
      have hshift : ∀ j, tst (look (wr ++ G)) acts j = tst (look G) ((rd, wr) :: acts) (j + 1) := fun j => by
        induction j with
        | zero => simp [tst, actAt, look_append]
        | succ j ihj => rw [tst, ihj]; simp [tst, actAt]
      refine ⟨fun j hj => ?_, ?_⟩
      · cases j with
        | zero => exact h1
        | succ j =>
          have := e1 j (by simpa using hj)
          rw [hshift] at this
          rw [show i + (j + 1) = i + 1 + j by omega]
          exact this
      · rw [e2, hshift]; rfl
/-! ### the checks, taken apart -/
theorem edges_at {ops : List Oper} {i k : Nat} {o : Oper} (h : edgesOk i ops = true) (ho : ops[k]? = some o) : ∀ e ∈ o.after.toList, Region.binds .any e = true → e.on < i + k := by
  induction ops generalizing i k with
  | nil => simp at ho
  | cons p ps ih =>
    simp only [edgesOk, Bool.and_eq_true] at h
    cases k with
    | zero =>
      simp at ho; subst ho
      intro e he hb
      have := List.all_eq_true.1 h.1 e he
      simp [hb] at this; omega
    | succ k =>
      intro e he hb
      have := ih h.2 (by simpa using ho) e he hb
      omega
theorem ment_at {ms : List Nat} {acts : Acts} {i j : Nat} (h : mentOk ms i acts = true) (hj : j < acts.length) {p} (hp : p ∈ (actAt acts j).2) {k} (hk : k ∈ p.1.homes ++ p.2.homes) : homeOk (ms.getD (i + j) 0) (i + j) k = true := by
  induction acts generalizing i j with
  | nil => simp at hj
  | cons a acts ih =>
    obtain ⟨rd, wr⟩ := a
    simp only [mentOk, Bool.and_eq_true] at h
    cases j with
    | zero => exact List.all_eq_true.1 (List.all_eq_true.1 h.1 p hp) k hk
    | succ j =>
      have := ih h.2 (by simpa using hj) hp
      rwa [show i + 1 + j = i + (j + 1) by omega] at this
theorem hit_of {xs ys : List Nm} {n} (h1 : n ∈ xs) (h2 : n ∈ ys) : hit xs ys = true := by
  simp only [hit, List.any_eq_true]
  exact ⟨n, h1, n, h2, by simp⟩
theorem apart1_at {ms : List Nat} {j : Nat} {a} {acts : Acts} {i k : Nat} (h : apart1 ms j a i acts = true) (hk : k < acts.length) : (ms.getD (i + k) 0).testBit j = true ∨ clash a (actAt acts k) = false := by
  induction acts generalizing i k with
  | nil => simp at hk
  | cons b acts ih =>
    simp only [apart1, Bool.and_eq_true, Bool.or_eq_true, Bool.not_eq_true'] at h
    cases k with
    | zero => exact h.1
    | succ k =>
      have := ih h.2 (by simpa using hk)
      rwa [show i + 1 + k = i + (k + 1) by omega] at this
theorem apart_at {ms : List Nat} {acts : Acts} {i j k : Nat} (h : apartAll ms i acts = true) (hj : j < k) (hk : k < acts.length) : (ms.getD (i + k) 0).testBit (i + j) = true ∨ clash (actAt acts j) (actAt acts k) = false := by
  induction acts generalizing i j k with
  | nil => simp at hk
  | cons a acts ih =>
    simp only [apartAll, Bool.and_eq_true] at h
    cases j with
    | zero =>
      obtain ⟨m, rfl⟩ : ∃ m, k = m + 1 := ⟨k - 1, by omega⟩
      have := apart1_at h.1 (k := m) (by simpa using hk)
      rw [show i + 1 + m = i + (m + 1) by omega] at this
      exact this
    | succ j =>
      obtain ⟨m, rfl⟩ : ∃ m, k = m + 1 := ⟨k - 1, by omega⟩
      have := ih h.2 (j := j) (k := m) (by omega) (by simpa using hk)
      rw [show i + 1 + m = i + (m + 1) by omega, show i + 1 + j = i + (j + 1) by omega] at this
      exact this
/-- Where nothing of the temporary homes is spoken of. -/
theorem noTemp_unm {G : List (Nm × C)} (h : noTemp G = true) (n : Nm) (k : Nat) (hk : 1000000 ≤ k) : ¬ (look G n).ment k ∧ (n.ment k → look G n = .none) := by
  induction G with
  | nil => exact ⟨by simp [look, C.ment], fun _ => rfl⟩
  | cons p G ih =>
    simp only [noTemp, List.all_cons, Bool.and_eq_true] at h
    obtain ⟨m, c⟩ := p
    have h1 : ∀ x ∈ m.homes ++ c.homes, x < 1000000 := fun x hx => by simpa using List.all_eq_true.1 h.1 x hx
    simp only [look]
    split
    · rename_i e
      subst e
      refine ⟨fun hm => ?_, fun hm => ?_⟩
      · have := h1 k (List.mem_append_right _ (C.ment_homes hm)); omega
      · have := h1 k (List.mem_append_left _ (Nm.ment_homes hm)); omega
    · exact ih h.2
theorem ups_mem {Γ : Nm → C} {wr : List (Nm × C)} {n} (h : n ∈ wr.map (·.1)) : (n, ups Γ wr n) ∈ wr := by
  induction wr with
  | nil => simp at h
  | cons p wr ih =>
    by_cases e : n = p.1
    · subst e; simp [ups]
    · rw [ups, up_ne e]
      simp [e] at h
      exact List.mem_cons_of_mem _ (ih (by simpa using h))
/-- Homes of acts that have not been done are not spoken of. -/
theorem val_unm {G : List (Nm × C)} {acts : Acts} {ms : List Nat} {D : Nat → Bool} {N i : Nat} (hN : N ≤ acts.length) (h0 : noTemp G = true) (hm : mentOk ms 0 acts = true) (hD : ∀ j, j < N → D j = true → j ≠ i ∧ (ms.getD j 0).testBit i = false) :
    ∀ k, isTh i k → Unm (valK (look G) acts D N) k := by
  intro k hk n
  unfold isTh at hk
  induction N with
  | zero => exact noTemp_unm h0 n k (by omega)
  | succ N ih =>
    have ih' := ih (by omega) fun j hj => hD j (by omega)
    rw [valK]
    split
    · rename_i hc
      obtain ⟨hd, hn⟩ := hc
      have hmem := ups_mem (Γ := look G) hn
      have hh : ∀ x ∈ n.homes ++ (ups (look G) (actAt acts N).2 n).homes, homeOk (ms.getD N 0) N x = true := fun x hx => by
        have := ment_at hm (j := N) (by omega) hmem hx
        simpa using this
      have key : k ∉ n.homes ++ (ups (look G) (actAt acts N).2 n).homes := fun hx => by
        have := hh k hx
        obtain ⟨h1, h2⟩ := hD N (by omega) hd
        have e : (k - 1000000) / 100 = i := by omega
        simp only [homeOk, e, h2, Bool.or_eq_true, decide_eq_true_eq, Bool.or_false] at this
        omega
      exact ⟨fun hm => key (List.mem_append_right _ (C.ment_homes hm)), fun hm => absurd (List.mem_append_left _ (Nm.ment_homes hm)) key⟩
    · exact ih'
end Go.Proofs.YtdpflafjfkooeaaGreatDoorG
