/- YtdpflafjfkooeaaGreatDoorZ10: a part of the proof, joined of its texts. -/
import Derived.Test.YtdpflafjfkooeaaGreatDoorZ9
/- G13: states in their plain form; code; functions. -/
namespace Go.Proofs.YtdpflafjfkooeaaGreatDoorG
open Go Go.RowKit
set_option linter.unusedVariables false
set_option linter.unusedSimpArgs false
/-! ### homes get new numbers -/
def renTV (m : List (Nat × Nat)) : TV → TV
  | .sr h => match fwd m h with | some k => .sr k | none => .dead
  | .pr h off => match fwd m h with | some k => .pr k off | none => .dead
  | .er h i => match fwd m h with | some k => .er k i | none => .dead
  | .cb f hs => match fwds m hs with | some ks => .cb f ks | none => .dead
  | x => x
def renPX (m : List (Nat × Nat)) : PX → PX
  | .one x => .one (renTV m x)
  | .agg xs => .agg (xs.map (renTV m))
def renX (m : List (Nat × Nat)) : X → X
  | .p x => .p (renPX m x)
  | .tup xs => .tup (xs.map (renPX m))
def renC (m : List (Nat × Nat)) : C → C
  | .t x => .t (renX m x)
  | .box ty xs => .box ty (xs.map (renTV m))
  | c => c
def renF (m : List (Nat × Nat)) (Γ : Nm → C) : Nm → C
  | .t i => renC m (Γ (.t i))
  | .row k' => match inv m k' with | some k => renC m (Γ (.row k)) | none => .none
  | .box k' => match inv m k' with | some k => renC m (Γ (.box k)) | none => .none
def Gh.ren (g : Gh) (m : List (Nat × Nat)) : Gh where
  o := fun b => match g.o b with
    | .row h => match fwd m h with | some k => .row k | none => .other
    | .box h => match fwd m h with | some k => .box k | none => .other
    | t => t
  hd := fun k' => match inv m k' with | some k => g.hd k | none => undef
  bk := fun k' => match inv m k' with | some k => g.bk k | none => 0
section
variable {m : List (Nat × Nat)} (hm : mOk m = true)
theorem ren_svr {w : World} {g : Gh} {v : Value} {x : SV} (r : SVR w g.o v x) : SVR w (g.ren m).o v x := r.mono fun b hb => ⟨by simp [Gh.ren, hb], rfl⟩
include hm
theorem ren_hd {g : Gh} {h k} (hk : fwd m h = some k) : (g.ren m).hd k = g.hd h := by simp [Gh.ren, fwd_inv hm hk]
theorem ren_bk {g : Gh} {h k} (hk : fwd m h = some k) : (g.ren m).bk k = g.bk h := by simp [Gh.ren, fwd_inv hm hk]
theorem ren_bks {g : Gh} : ∀ {hs ks : List Nat}, fwds m hs = some ks → (hs.map fun h => Value.pointer (some ⟨g.bk h, 0, none⟩)) = ks.map fun h => Value.pointer (some ⟨(g.ren m).bk h, 0, none⟩)
  | [], ks, h => by simp [fwds] at h; subst h; rfl
  | h :: hs, ks, hk => by
    simp only [fwds] at hk
    split at hk
    · rename_i k ks' e1 e2
      cases hk
      simp only [List.map_cons, ren_bk hm e1, ren_bks e2]
    · cases hk
theorem ren_tvr {w g v} {x : TV} (r : TVR w g v x) : TVR w (g.ren m) v (renTV m x) := by
  cases x with
  | v x => exact ren_svr r
  | sr h =>
    simp only [renTV]
    split
    · rename_i k hk; show v = _; rw [ren_hd hm hk]; exact r
    · trivial
  | pr h off =>
    simp only [renTV]
    split
    · rename_i k hk; show v = _; rw [ren_bk hm hk]; exact r
    · trivial
  | er h i =>
    simp only [renTV]
    split
    · rename_i k hk; obtain ⟨b, n, c, h1, h2⟩ := r; exact ⟨b, n, c, by rw [ren_hd hm hk]; exact h1, h2⟩
    · trivial
  | cp xs k => obtain ⟨b, off, us, h1, h2, h3, h4, h5⟩ := r; exact ⟨b, off, us, h1, by simp [Gh.ren, h2], h3, h4, fun j u x a b => ren_svr (h5 j u x a b)⟩
  | nl ty e => exact r
  | nn e xs => exact ⟨ren_svr r.1, r.2⟩
  | cb f hs =>
    simp only [renTV]
    split
    · rename_i ks hks
      refine (show v = _ from r).trans ?_
      rw [ren_bks hm hks]
    · trivial
  | dead => trivial
theorem ren_all {w g} {us : List Value} {xs : List TV} (r : All2 (TVR w g) us xs) : All2 (TVR w (g.ren m)) us (xs.map (renTV m)) := by
  refine ⟨by simp [r.1], fun j u y h1 h2 => ?_⟩
  rw [List.getElem?_map] at h2
  cases hx : xs[j]? with
  | none => simp [hx] at h2
  | some z => simp [hx] at h2; subst h2; exact ren_tvr hm (r.2 j u z h1 hx)
theorem ren_pxr {w g v} {x : PX} (r : PXR w g v x) : PXR w (g.ren m) v (renPX m x) := by
  cases x with
  | one x => exact ren_tvr hm r
  | agg xs => obtain ⟨cs, h1, h2⟩ := r; exact ⟨cs, h1, ren_all hm h2⟩
theorem ren_xr {w g v} {x : X} (r : XR w g v x) : XR w (g.ren m) v (renX m x) := by
  cases x with
  | p x => exact ren_pxr hm r
  | tup xs =>
    obtain ⟨cs, h1, h2⟩ := r
    refine ⟨cs, h1, by simp [h2.1], fun j u y e1 e2 => ?_⟩
    rw [List.getElem?_map] at e2
    cases hx : xs[j]? with
    | none => simp [hx] at e2
    | some z => simp [hx] at e2; subst e2; exact ren_pxr hm (h2.2 j u z e1 hx)
theorem ren_rowr {w g h k ty e xs} (hk : fwd m h = some k) (r : RowR w g h ty e xs) : RowR w (g.ren m) k ty e xs := by
  obtain ⟨n, vs, he, hn, ho, hall⟩ := r
  refine ⟨n, vs, he, hn, ?_, hall.mono fun _ _ => ren_svr⟩
  unfold OwnR
  rw [ren_hd hm hk]
  exact ho.imp (fun q => ⟨q.1, fun b hb => by simp [Gh.ren, q.2 b hb, hk]⟩) id
theorem Rel.ren {Γ nt a w g} (r : Rel Γ nt a w g) : Rel (renF m Γ) nt a w (g.ren m) := by
  refine ⟨r.size, r.df, fun b hb => r.tags b fun e => hb (by simp [Gh.ren, e]), r.gl.keep fun q => ⟨rfl, by simp [Gh.ren, q]⟩, fun n => ?_⟩
  cases n with
  | t i =>
    have hc := r.cr (.t i)
    simp only [renF]
    cases hg : Γ (.t i) <;> rw [hg] at hc <;> first | trivial | exact ren_xr hm hc
  | row k' =>
    simp only [renF]
    split
    · rename_i k hk
      have hc := r.cr (.row k)
      cases hg : Γ (.row k) <;> rw [hg] at hc <;> first | trivial | exact ren_rowr hm (inv_fwd hm hk) hc
    · trivial
  | box k' =>
    simp only [renF]
    split
    · rename_i k hk
      have hc := r.cr (.box k)
      cases hg : Γ (.box k) <;> rw [hg] at hc <;> first | trivial | skip
      obtain ⟨cur, h1, h2, h3⟩ := hc
      have hf := inv_fwd hm hk
      exact ⟨cur, by rw [ren_bk hm hf]; exact h1, by rw [ren_bk hm hf]; simp [Gh.ren, h2, hf], ren_all hm h3⟩
    · trivial
end
theorem Fr.ren (w : World) (g : Gh) (m : List (Nat × Nat)) : Fr w w g.o (g.ren m).o :=
  ⟨rfl, rfl, rfl, Nat.le_refl _, fun b hb ho => ⟨rfl, by rcases ho with ho | ho <;> simp [Gh.ren, ho]⟩, fun b hb ⟨k, hk⟩ => ⟨by simp only [Gh.ren, hk]; split <;> rfl, Shp.refl w b⟩⟩
/-! ### nil slices of variables are rows -/
def nlW (i : Nat) (c : C) : List (Nm × C) := match c with
  | .t (.p (.one (.nl ty e))) => if 0 < e then [(.t i, .t (.p (.one (.sr (2000000 + i))))), (.row (2000000 + i), .row ty e [])] else []
  | _ => []
/-- The cells of a box: each nil slice gets a home. -/
def nlCells (base : Nat) : Nat → List TV → List TV × List (Nm × C)
  | _, [] => ([], [])
  | j, x :: r =>
    let q := nlCells base (j + 1) r
    match x with
    | .nl ty e => if 0 < e then (.sr (base + j) :: q.1, q.2 ++ [(.row (base + j), .row ty e [])]) else (.nl ty e :: q.1, q.2)
    | x => (x :: q.1, q.2)
def allUnder (n : Nat) (G : List (Nm × C)) : Bool := G.all fun p => (p.1.homes ++ p.2.homes).all fun h => decide (h < n)
theorem allUnder_unm {n : Nat} {G : List (Nm × C)} (h : allUnder n G = true) {k : Nat} (hk : n ≤ k) : Unm (look G) k := fun m => by
  induction G with
  | nil => exact ⟨by simp [look, C.ment], fun _ => rfl⟩
  | cons p G ih =>
    simp only [allUnder, List.all_cons, Bool.and_eq_true] at h
    obtain ⟨m', c⟩ := p
    have h1 : ∀ x ∈ m'.homes ++ c.homes, x < n := fun x hx => by simpa using List.all_eq_true.1 h.1 x hx
    simp only [look]
    split
    · rename_i e
      subst e
      refine ⟨fun hm => ?_, fun hm => ?_⟩
      · have := h1 k (List.mem_append_right _ (C.ment_homes hm)); omega
      · have := h1 k (List.mem_append_left _ (Nm.ment_homes hm)); omega
    · exact ih h.2
/-- One variable's nil slice becomes a row. -/
def denlT (i : Nat) (G : List (Nm × C)) : List (Nm × C) :=
  if allUnder (2000000 + i) G then nlW i (look G (.t i)) ++ G else G
theorem denlT_rel {i G nt a w g} (r : Rel (look G) nt a w g) : ∃ g', Rel (look (denlT i G)) nt a w g' ∧ Fr w w g.o g'.o := by
  unfold denlT
  split
  · rename_i hu
    unfold nlW
    split
    · rename_i ty e hc
      split
      · rename_i he
        have r1 := r.nilHome (k := 2000000 + i) (ty := ty) (allUnder_unm hu (Nat.le_refl _)) he
        refine ⟨{ g with hd := fun k' => if k' = 2000000 + i then .slice none 0 0 else g.hd k' }, ?_, Fr.refl _ _⟩
        rw [look_append]
        refine r1.upd (n := .t i) ?_
        have hx := r.tmp hc
        have hv : a.tmps.getD i undef = .slice none 0 0 := hx
        simp [CR, XR, PXR, TVR, hv]
      · exact ⟨g, by simpa using r, Fr.refl _ _⟩
    · exact ⟨g, by simpa using r, Fr.refl _ _⟩
  · exact ⟨g, r, Fr.refl _ _⟩
def denls : List Nat → List (Nm × C) → List (Nm × C)
  | [], G => G
  | i :: r, G => denls r (denlT i G)
theorem denls_rel {nt a w} : ∀ {vars : List Nat} {G g}, Rel (look G) nt a w g → ∃ g', Rel (look (denls vars G)) nt a w g' ∧ Fr w w g.o g'.o
  | [], G, g, r => ⟨g, r, Fr.refl _ _⟩
  | i :: vars, G, g, r => by
    obtain ⟨g1, r1, f1⟩ := denlT_rel (i := i) r
    obtain ⟨g2, r2, f2⟩ := denls_rel (vars := vars) r1
    exact ⟨g2, r2, f1.trans f2⟩
theorem tvr_same {w : World} {g g' : Gh} {u : Value} {x : TV} {n : Nat} (ho : g'.o = g.o) (hb : g'.bk = g.bk) (hd : ∀ k, k < n → g'.hd k = g.hd k) (hh : ∀ h ∈ x.homes, h < n) (r : TVR w g u x) : TVR w g' u x := by
  cases x with
  | v x => show SVR w g'.o u x; rw [ho]; exact r
  | sr k => show u = g'.hd k; rw [hd k (hh k (by simp [TV.homes]))]; exact r
  | pr k off => show u = _; rw [hb]; exact r
  | er k i => obtain ⟨b, m, c, h1, h2⟩ := r; exact ⟨b, m, c, by rw [hd k (hh k (by simp [TV.homes]))]; exact h1, h2⟩
  | cp xs k => show CPR w g'.o u xs k; rw [ho]; exact r
  | nl ty e => exact r
  | nn e xs => show SVR w g'.o u _ ∧ _; rw [ho]; exact r
  | cb f hs => show u = _; rw [hb]; exact r
  | dead => trivial
theorem nlCells_rel {nt a w base} : ∀ {xs : List TV} {us : List Value} {j : Nat} {G : List (Nm × C)} {g : Gh}, Rel (look G) nt a w g → allUnder (base + j) G = true → (∀ x ∈ xs, ∀ h ∈ x.homes, h < base + j) → All2 (TVR w g) us xs →
    ∃ g', Rel (look ((nlCells base j xs).2 ++ G)) nt a w g' ∧ All2 (TVR w g') us (nlCells base j xs).1 ∧ g'.o = g.o ∧ g'.bk = g.bk ∧ ∀ k, k < base + j → g'.hd k = g.hd k
  | [], us, j, G, g, r, hu, hh, ha => ⟨g, r, ha, rfl, rfl, fun _ _ => rfl⟩
  | x :: xs, us, j, G, g, r, hu, hh, ha => by
    cases us with
    | nil => have := ha.1; simp at this
    | cons u us =>
      have hu' : allUnder (base + (j + 1)) G = true := by
        have h := hu
        simp only [allUnder, List.all_eq_true, decide_eq_true_eq] at h ⊢
        intro p hp k hk
        have := h p hp k hk
        omega
      have hh' : ∀ y ∈ xs, ∀ h ∈ y.homes, h < base + (j + 1) := fun y hy h hhm => by have := hh y (by simp [hy]) h hhm; omega
      by_cases hnl : ∃ ty e, x = .nl ty e ∧ 0 < e
      · obtain ⟨ty, e, rfl, he⟩ := hnl
        have r1 := r.nilHome (k := base + j) (ty := ty) (allUnder_unm hu (Nat.le_refl _)) he
        have hu1 : allUnder (base + (j + 1)) ((.row (base + j), .row ty e []) :: G) = true := by
          simp only [allUnder, List.all_cons, Bool.and_eq_true]
          refine ⟨?_, hu'⟩
          simp [Nm.homes, C.homes]
        have ha1 : All2 (TVR w { g with hd := fun k' => if k' = base + j then .slice none 0 0 else g.hd k' }) us xs := ha.tail.mono' fun v y hy hr =>
          tvr_same (g := g) (g' := { g with hd := fun k' => if k' = base + j then .slice none 0 0 else g.hd k' }) (n := base + j) rfl rfl (fun k hk => by simp only []; rw [if_neg (by omega)]) (hh y (by simp [hy])) hr
        obtain ⟨g2, r2, a2, o2, b2, d2⟩ := nlCells_rel (j := j + 1) (G := (.row (base + j), .row ty e []) :: G) r1 hu1 hh' ha1
        have hsplit : nlCells base j (TV.nl ty e :: xs) = (.sr (base + j) :: (nlCells base (j + 1) xs).1, (nlCells base (j + 1) xs).2 ++ [(.row (base + j), .row ty e [])]) := by simp [nlCells, he]
        rw [hsplit]
        refine ⟨g2, by simpa using r2, .cons ?_ a2, o2.trans rfl, b2.trans rfl, fun k hk => ?_⟩
        · have hv : u = .slice none 0 0 := ha.head
          show u = g2.hd (base + j)
          rw [d2 (base + j) (by omega), hv]
          simp
        · rw [d2 k (by omega)]
          simp
          omega
      · have hsplit : nlCells base j (x :: xs) = (x :: (nlCells base (j + 1) xs).1, (nlCells base (j + 1) xs).2) := by
          cases x with
          | nl ty e =>
            have : ¬ 0 < e := fun he => hnl ⟨ty, e, rfl, he⟩
            simp [nlCells, this]
          | _ => simp [nlCells]
        rw [hsplit]
        obtain ⟨g2, r2, a2, o2, b2, d2⟩ := nlCells_rel (j := j + 1) r hu' hh' ha.tail
        exact ⟨g2, r2, .cons (tvr_same (n := base + j) o2 b2 (fun k hk => d2 k (by omega)) (hh x (by simp)) ha.head) a2, o2, b2, fun k hk => d2 k (by omega)⟩
/-- A box's nil slices become rows. -/
def denlB (base h : Nat) (G : List (Nm × C)) : List (Nm × C) :=
  match look G (.box h) with
  | .box ty xs => let q := nlCells base 0 xs
    if allUnder base G && xs.all (fun x => x.homes.all fun h => decide (h < base)) then (.box h, .box ty q.1) :: (q.2 ++ G) else G
  | _ => G
theorem denlB_rel {base h G nt a w g} (r : Rel (look G) nt a w g) : ∃ g', Rel (look (denlB base h G)) nt a w g' ∧ Fr w w g.o g'.o := by
  unfold denlB
  split
  · rename_i ty xs hb
    simp only []
    split
    · rename_i hu
      simp only [Bool.and_eq_true, List.all_eq_true, decide_eq_true_eq] at hu
      obtain ⟨cur, h1, h2, h3⟩ := r.box hb
      obtain ⟨g', r', a', o', b', d'⟩ := nlCells_rel (base := base) (j := 0) r (by simpa [allUnder] using hu.1) (fun x hx k hk => by have := hu.2 x hx k hk; omega) h3
      refine ⟨g', ?_, by rw [o']; exact Fr.refl _ _⟩
      have := r'.upd (n := .box h) (c := .box ty (nlCells base 0 xs).1) ⟨cur, by rw [b']; exact h1, by rw [b', o']; exact h2, a'⟩
      exact this
    · exact ⟨g, r, Fr.refl _ _⟩
  · exact ⟨g, r, Fr.refl _ _⟩
def boxHomes (G : List (Nm × C)) : List Nat := G.filterMap fun p => match p.1 with | .box h => some h | _ => none
def denlBs : Nat → List Nat → List (Nm × C) → List (Nm × C)
  | _, [], G => G
  | n, h :: r, G => denlBs (n + 1) r (denlB (4000000 + 100 * n) h G)
theorem denlBs_rel {nt a w} : ∀ {hs : List Nat} {n : Nat} {G g}, Rel (look G) nt a w g → ∃ g', Rel (look (denlBs n hs G)) nt a w g' ∧ Fr w w g.o g'.o
  | [], n, G, g, r => ⟨g, r, Fr.refl _ _⟩
  | h :: hs, n, G, g, r => by
    obtain ⟨g1, r1, f1⟩ := denlB_rel (base := 4000000 + 100 * n) (h := h) r
    obtain ⟨g2, r2, f2⟩ := denlBs_rel (hs := hs) (n := n + 1) r1
    exact ⟨g2, r2, f1.trans f2⟩
/-! ### the plain form -/
def addH (Γ : Nm → C) (m : List (Nat × Nat)) (h : Nat) : List (Nat × Nat) :=
  if m.any (fun p => p.1 == h) then m else match Γ (.row h), Γ (.box h) with
    | .none, .none => m
    | _, _ => m ++ [(h, m.length)]
def nest (Γ : Nm → C) (m : List (Nat × Nat)) : List (Nat × Nat) := m.foldl (fun m p => (Γ (.box p.1)).homes.foldl (addH Γ) m) m
def mkM (vars : List Nat) (Γ : Nm → C) : List (Nat × Nat) := nest Γ (nest Γ (vars.foldl (fun m i => (Γ (.t i)).homes.foldl (addH Γ) m) []))
def isDead : C → Bool
  | .none | .t (.p (.one .dead)) => true
  | _ => false
def ent (n : Nm) (c : C) : List (Nm × C) := if isDead c then [] else [(n, c)]
def listF (ns : List Nm) (f : Nm → C) : List (Nm × C) := ns.flatMap fun n => ent n (f n)
theorem listF_sub (ns : List Nm) (f : Nm → C) (n : Nm) : look (listF ns f) n = f n ∨ look (listF ns f) n = .none := by
  induction ns with
  | nil => exact .inr rfl
  | cons k ns ih =>
    simp only [listF, List.flatMap_cons] at ih ⊢
    unfold ent
    split
    · exact ih
    · simp only [List.singleton_append, look]
      split
      · rename_i e; subst e; exact .inl rfl
      · exact ih
/-! ### own rows of variables become values, where that is asked for (a number of 1000000 and more) -/
def frzX (i : Nat) (G : List (Nm × C)) (q : Option (X × List Nat)) : List (Nm × C) :=
  match q with
  | some p => (.t i, .t p.1) :: (frzW p.2 ++ G)
  | none => G
def frzBL (h ty : Nat) (G : List (Nm × C)) (q : Option (List SV × List Nat)) : List (Nm × C) :=
  match q with
  | some p => (.box h, .box ty (p.1.map .v)) :: (frzW p.2 ++ G)
  | none => G
def frzB (h : Nat) (G : List (Nm × C)) (c : C) : List (Nm × C) :=
  match c with
  | .box ty xs => frzBL h ty G (frzL (look G) xs)
  | _ => G
def frzD (i : Nat) (G : List (Nm × C)) (x : X) : List (Nm × C) :=
  match x with
  | .p (.one (.sr h)) => frzX i G (byVal (look G) (.p (.one (.sr h))))
  | .p (.agg xs) => frzX i G (byVal (look G) (.p (.agg xs)))
  | .p (.one (.pr h _)) => frzB h G (look G (.box h))
  | _ => G
def frzC (i : Nat) (G : List (Nm × C)) (c : C) : List (Nm × C) :=
  match c with
  | .t x => frzD i G x
  | _ => G
/-- One cell of a variable alone (1500000 + 100 * temporary + cell). -/
def frzO (h ty : Nat) (xs : List TV) (j : Nat) (G : List (Nm × C)) (q : Option (SV × List Nat)) : List (Nm × C) :=
  match q with
  | some p => (.box h, .box ty (xs.set j (.v p.1))) :: (frzW p.2 ++ G)
  | none => G
def frzK (t j : Nat) (G : List (Nm × C)) : List (Nm × C) :=
  match look G (.t t) with
  | .t (.p (.one (.pr h _))) => match look G (.box h) with
    | .box ty xs => match xs[j]? with
      | some x => frzO h ty xs j G (frzT (look G) x)
      | none => G
    | _ => G
  | _ => G
def frzs : List Nat → List (Nm × C) → List (Nm × C)
  | [], G => G
  | i :: r, G => frzs r (if 1500000 ≤ i then frzK ((i - 1500000) / 100) ((i - 1500000) % 100) G else if 1000000 ≤ i then frzC (i - 1000000) G (look G (.t (i - 1000000))) else G)
theorem frzX_rel {i G nt a w g x} (r : Rel (look G) nt a w g) (hx : look G (.t i) = .t x) : ∃ g', Rel (look (frzX i G (byVal (look G) x))) nt a w g' ∧ Fr w w g.o g'.o := by
  cases hq : byVal (look G) x with
  | none => exact ⟨g, r, Fr.refl _ _⟩
  | some p =>
    obtain ⟨y, hs⟩ := p
    refine ⟨g.frz hs, ?_, Fr.frz w g hs⟩
    show Rel (look ((.t i, .t y) :: (frzW hs ++ G))) nt a w (g.frz hs)
    have h1 := r.frz hs
    rw [← look_append] at h1
    exact h1.upd (n := .t i) (byVal_rel r hq (fun _ _ => rfl) (fun _ h => h) (r.tmp hx))
theorem frzBL_rel {h ty G nt a w g xs} (r : Rel (look G) nt a w g) (hb : look G (.box h) = .box ty xs) : ∃ g', Rel (look (frzBL h ty G (frzL (look G) xs))) nt a w g' ∧ Fr w w g.o g'.o := by
  cases hq : frzL (look G) xs with
  | none => exact ⟨g, r, Fr.refl _ _⟩
  | some p =>
    obtain ⟨ss, hs⟩ := p
    refine ⟨g.frz hs, ?_, Fr.frz w g hs⟩
    show Rel (look ((.box h, .box ty (ss.map .v)) :: (frzW hs ++ G))) nt a w (g.frz hs)
    have h1 := r.frz hs
    rw [← look_append] at h1
    refine h1.upd (n := .box h) ?_
    obtain ⟨cur, q1, q2, q3⟩ := r.box hb
    exact ⟨cur, q1, by simp [Gh.frz, q2], (frzL_rel r hq (fun _ _ => rfl) (fun _ h => h) q3).svTv⟩
theorem frzC_rel {i G nt a w g} (r : Rel (look G) nt a w g) : ∃ g', Rel (look (frzC i G (look G (.t i)))) nt a w g' ∧ Fr w w g.o g'.o := by
  cases hc : look G (.t i) with
  | t x =>
    show ∃ g', Rel (look (frzD i G x)) nt a w g' ∧ Fr w w g.o g'.o
    unfold frzD
    split
    · exact frzX_rel r hc
    · exact frzX_rel r hc
    · rename_i h off
      unfold frzB
      split
      · rename_i ty xs hb
        exact frzBL_rel r hb
      · exact ⟨g, r, Fr.refl _ _⟩
    · exact ⟨g, r, Fr.refl _ _⟩
  | _ => exact ⟨g, r, Fr.refl _ _⟩
theorem frzK_rel {t j G nt a w g} (r : Rel (look G) nt a w g) : ∃ g', Rel (look (frzK t j G)) nt a w g' ∧ Fr w w g.o g'.o := by
  unfold frzK
  split
  · rename_i h off ht
    split
    · rename_i ty xs hb
      split
      · rename_i x hx
        cases hq : frzT (look G) x with
        | none => exact ⟨g, r, Fr.refl _ _⟩
        | some p =>
          obtain ⟨s, hs⟩ := p
          refine ⟨g.frz hs, ?_, Fr.frz w g hs⟩
          show Rel (look ((.box h, .box ty (xs.set j (.v s))) :: (frzW hs ++ G))) nt a w (g.frz hs)
          have h1 := r.frz hs
          rw [← look_append] at h1
          refine h1.upd (n := .box h) ?_
          obtain ⟨cur, q1, q2, q3⟩ := r.box hb
          have hlt : j < cur.toList.length := by rw [q3.1]; exact (List.getElem?_eq_some_iff.1 hx).1
          have hu : cur.toList[j]? = some cur.toList[j] := List.getElem?_eq_getElem hlt
          have hc : TVR w (g.frz hs) cur.toList[j] (.v s) := frzT_rel r hq (fun _ _ => rfl) (fun _ h => h) (q3.2 j _ _ hu hx)
          refine ⟨cur, q1, by simp [Gh.frz, q2], by rw [List.length_set]; exact q3.1, fun k v y e1 e2 => ?_⟩
          rw [List.getElem?_set] at e2
          split at e2
          · rename_i e
            subst e
            split at e2
            · cases e2; rw [hu] at e1; cases e1; exact hc
            · cases e2
          · exact frz_tvr (q3.2 k v y e1 e2)
      · exact ⟨g, r, Fr.refl _ _⟩
    · exact ⟨g, r, Fr.refl _ _⟩
  · exact ⟨g, r, Fr.refl _ _⟩
theorem frzs_rel {nt a w} : ∀ {vars : List Nat} {G g}, Rel (look G) nt a w g → ∃ g', Rel (look (frzs vars G)) nt a w g' ∧ Fr w w g.o g'.o
  | [], G, g, r => ⟨g, r, Fr.refl _ _⟩
  | i :: vars, G, g, r => by
    by_cases h3 : 1500000 ≤ i
    · obtain ⟨g1, r1, f1⟩ := frzK_rel (t := (i - 1500000) / 100) (j := (i - 1500000) % 100) r
      obtain ⟨g2, r2, f2⟩ := frzs_rel (vars := vars) r1
      exact ⟨g2, by simpa only [frzs, if_pos h3] using r2, f1.trans f2⟩
    by_cases hi : 1000000 ≤ i
    · obtain ⟨g1, r1, f1⟩ := frzC_rel (i := i - 1000000) r
      obtain ⟨g2, r2, f2⟩ := frzs_rel (vars := vars) r1
      exact ⟨g2, by simpa only [frzs, if_neg h3, if_pos hi] using r2, f1.trans f2⟩
    · obtain ⟨g2, r2, f2⟩ := frzs_rel (vars := vars) r
      exact ⟨g2, by simpa only [frzs, if_neg h3, if_neg hi] using r2, f2⟩
def plain (vars : List Nat) (G00 : List (Nm × C)) : List (Nm × C) :=
  let G0 := frzs vars G00
  let G1 := denls vars G0
  let G := denlBs 0 (boxHomes G1) G1
  let m := mkM vars (look G)
  if mOk m then listF (vars.map .t ++ m.flatMap fun p => [.row p.2, .box p.2]) (renF m (look G)) else []
theorem plain_rel {nt a w vars G g} (r : Rel (look G) nt a w g) : ∃ g', Rel (look (plain vars G)) nt a w g' ∧ Fr w w g.o g'.o := by
  obtain ⟨g00, r00, f00⟩ := frzs_rel (vars := vars) r
  obtain ⟨g0, r0, f0⟩ := denls_rel (vars := vars) r00
  obtain ⟨g1, r1, f1'⟩ := denlBs_rel (hs := boxHomes (denls vars (frzs vars G))) (n := 0) r0
  have f1 := (f00.trans f0).trans f1'
  unfold plain
  simp only []
  split
  · rename_i hm
    exact ⟨_, (r1.ren hm).sub (listF_sub _ _), f1.trans (Fr.ren _ _ _)⟩
  · exact ⟨g1, r1.sub fun n => .inr rfl, f1⟩
/-! ### a slice by value is nil or it is not (a number of 2000000 and more: 2000000 + 100 * temporary + cell) -/
def impS (p q : Prop) : Prop := p → q
def splT (t j : Nat) (G : List (Nm × C)) (K : List (Nm × C) → Prop) : Prop :=
  match look G (.t t) with
  | .t (.p (.one (.pr h _))) => match look G (.box h) with
    | .box ty xs => match xs[j]? with
      | some (.v (.sl e ys)) => impS (ys = []) (K ((.box h, .box ty (xs.set j (.nl 0 e))) :: G)) ∧ K ((.box h, .box ty (xs.set j (.nn e ys))) :: G)
      | _ => K G
    | _ => K G
  | .t (.p (.one (.v (.sl e ys)))) => impS (ys = []) (K ((.t t, .t (.p (.one (.nl 0 e)))) :: G)) ∧ K ((.t t, .t (.p (.one (.nn e ys)))) :: G)
  | _ => K G
def vSpl : List Nat → List (Nm × C) → (List (Nm × C) → Prop) → Prop
  | [], G, K => K G
  | i :: r, G, K => if 2000000 ≤ i then splT ((i - 2000000) / 100) ((i - 2000000) % 100) G fun G' => vSpl r G' K else vSpl r G K
theorem nil_or {w : World} {g : Gh} {u : Value} {e : Nat} {ys : List SV} (h : SVR w g.o u (.sl e ys)) : (ys = [] ∧ TVR w g u (.nl 0 e)) ∨ TVR w g u (.nn e ys) := by
  by_cases hn : ∃ n c, u = .slice none n c
  · obtain ⟨n, c, rfl⟩ := hn
    have hc := SVR.noneCap h rfl
    cases h with
    | nil => subst hc; exact .inl ⟨rfl, rfl⟩
  · exact .inr ⟨h, fun n c e => hn ⟨n, c, e⟩⟩
theorem All2.set1 {α β : Type} {R : α → β → Prop} {us : List α} {xs : List β} (h : All2 R us xs) {j : Nat} {u : α} {x : β} (hu : us[j]? = some u) (r : R u x) : All2 R us (xs.set j x) := by
  refine ⟨by rw [List.length_set]; exact h.1, fun k v y h1 h2 => ?_⟩
  rw [List.getElem?_set] at h2
  split at h2
  · rename_i e
    subst e
    split at h2
    · cases h2; rw [hu] at h1; cases h1; exact r
    · cases h2
  · exact h.2 k v y h1 h2
theorem splT_rel {t j G K nt a w g} (h : splT t j G K) (r : Rel (look G) nt a w g) : ∃ G', Rel (look G') nt a w g ∧ K G' := by
  unfold splT at h
  split at h
  · rename_i hh off ht
    split at h
    · rename_i ty xs hb
      split at h
      · rename_i e ys hx
        obtain ⟨cur, q1, q2, q3⟩ := r.box hb
        have hlt : j < cur.toList.length := by rw [q3.1]; exact (List.getElem?_eq_some_iff.1 hx).1
        have hu : cur.toList[j]? = some cur.toList[j] := List.getElem?_eq_getElem hlt
        rcases nil_or (q3.2 j _ _ hu hx) with ⟨hy, hn⟩ | hn
        · refine ⟨(.box hh, .box ty (xs.set j (.nl 0 e))) :: G, ?_, h.1 hy⟩
          exact r.upd (n := .box hh) (c := .box ty (xs.set j (.nl 0 e))) (show BoxR w g hh ty _ from ⟨cur, q1, q2, q3.set1 hu hn⟩)
        · refine ⟨(.box hh, .box ty (xs.set j (.nn e ys))) :: G, ?_, h.2⟩
          exact r.upd (n := .box hh) (c := .box ty (xs.set j (.nn e ys))) (show BoxR w g hh ty _ from ⟨cur, q1, q2, q3.set1 hu hn⟩)
      · exact ⟨G, r, h⟩
    · exact ⟨G, r, h⟩
  · rename_i e ys ht
    rcases nil_or (r.tmp ht : SVR w g.o _ _) with ⟨hy, hn⟩ | hn
    · refine ⟨(.t t, .t (.p (.one (.nl 0 e)))) :: G, ?_, h.1 hy⟩
      exact r.upd (n := .t t) (c := .t (.p (.one (.nl 0 e)))) hn
    · refine ⟨(.t t, .t (.p (.one (.nn e ys)))) :: G, ?_, h.2⟩
      exact r.upd (n := .t t) (c := .t (.p (.one (.nn e ys)))) hn
  · exact ⟨G, r, h⟩
theorem vSpl_rel {nt a w g} : ∀ {l : List Nat} {G K}, vSpl l G K → Rel (look G) nt a w g → ∃ G', Rel (look G') nt a w g ∧ K G'
  | [], G, K, h, r => ⟨G, r, h⟩
  | i :: l, G, K, h, r => by
    unfold vSpl at h
    split at h
    · obtain ⟨G1, r1, h1⟩ := splT_rel h r
      exact vSpl_rel h1 r1
    · exact vSpl_rel h r
theorem vSpl_none : ∀ {l : List Nat} {G K}, (l.all fun i => decide (i < 2000000)) = true → K G → vSpl l G K
  | [], G, K, _, h => h
  | i :: l, G, K, hl, h => by
    simp only [List.all_cons, Bool.and_eq_true, decide_eq_true_eq] at hl
    unfold vSpl
    rw [if_neg (by omega)]
    exact vSpl_none hl.2 h
/-! ### code -/
inductive GEx where
  | normal | exit (id : Nat) | ret | panic (v : Value) | goto (l : Nat)
def GEx.ex : GEx → Exit
  | .normal => .normal
  | .exit id => .exit id
  | .ret => .ret
  | .panic v => .panic [{ v := v, recovered := false }]
  | .goto l => .goto l
def GEx.seq (K : List (Nm × C) → Prop) (Q : GEx → List (Nm × C) → Prop) : GEx → List (Nm × C) → Prop
  | .normal, G => K G
  | e, G => Q e G
def GEx.blk (id : Nat) (Q : GEx → List (Nm × C) → Prop) : GEx → List (Nm × C) → Prop
  | .exit id', G => if id' = id then Q .normal G else Q (.exit id') G
  | e, G => Q e G
/-- The temporaries that a code may write. -/
def wrs : Code → List Nat
  | .region _ ops _ => ops.toList.filterMap (·.dst)
  | .seq x y => wrs x ++ wrs y
  | .cond _ x y => wrs x ++ wrs y
  | .block _ x => wrs x
  | .loop x => wrs x
  | .rangeFunc _ ps x y => ps.toList ++ (wrs x ++ wrs y)
  | _ => []
/-- Without what is told of some temporaries. -/
def dropT (l : List Nat) : List (Nm × C) → List (Nm × C)
  | [] => []
  | (n, c) :: r => match n with
    | .t i => match l.contains i with
      | true => dropT l r
      | false => (n, c) :: dropT l r
    | _ => (n, c) :: dropT l r
def setPs : List Nat → List X → List (Nm × C) → List (Nm × C)
  | p :: ps, x :: xs, G => setPs ps xs ((.t p, .t x) :: G)
  | _, _, G => G
def vCode (T : Tab) (O : Orc) (nt : Nat) (vars : Nat → List Nat) : Code → List (Nm × C) → (GEx → List (Nm × C) → Prop) → Prop
  | .skip, G, Q => Q .normal G
  | .label _, G, Q => Q .normal G
  | .region id ops draw, G, Q => vSpl (vars id) G fun G => vOps T O nt ops.toList 0 ops.toList G [] fun pv G' acts => match pv with
    | none => regOk ops.toList draw G acts = true ∧ Q .normal (plain (vars id) G')
    | some v => panRegion T O nt ops.toList draw G G' acts (Q (.panic v) [])
  | .seq x y, G, Q => vCode T O nt vars x G (GEx.seq (fun G' => vCode T O nt vars y G' Q) Q)
  | .cond c x y, G, Q => match opX (look G) c with
    | .p (.one (.v (.raw (.bool b)))) => match b with
      | true => vCode T O nt vars x G Q
      | false => vCode T O nt vars y G Q
    | _ => False
  | .block id x, G, Q => vCode T O nt vars x G (GEx.blk id Q)
  | .loop x, G, Q => ∃ I : Nat → List (Nm × C) → Prop, (∃ n, I n G) ∧ ∀ n G', I n G' → vCode T O nt vars x G' (GEx.seq (fun G'' => ∃ k, k < n ∧ I k G'') Q)
  | .rangeFunc gx ps x y, G, Q => match opX (look G) gx with
    | .p (.one (.v (.clo gf caps))) => O.it gf caps fun els => (∀ xs ∈ els, xs.length = ps.size) ∧ (∀ p ∈ ps.toList, p < nt) ∧ ∃ (D : List Nat) (I : Nat → List (Nm × C) → Prop), I 0 (dropT D G) ∧
        (∀ k xs G1, els[k]? = some xs → I k G1 → vCode T O nt vars x (setPs ps.toList xs G1) fun e2 G2 => e2 = .normal ∧ vCode T O nt vars y G2 fun e3 G3 => match e3 with
          | .normal => I (k + 1) (dropT (ps.toList ++ (wrs x ++ wrs y)) G3)
          | .exit id => Q (.exit id) (dropT (ps.toList ++ (wrs x ++ wrs y)) G3)
          | .ret => Q .ret (dropT (ps.toList ++ (wrs x ++ wrs y)) G3)
          | .panic _ => False
          | .goto _ => False) ∧
        ∀ G1, I els.length G1 → Q .normal G1
    | _ => False
  | .exit id, G, Q => Q (.exit id) G
  | .goto l, G, Q => Q (.goto l) G
  | .ret, G, Q => Q .ret G
  | _, _, _ => False
theorem wpIn_loop_ghost {F : Fence} {n : Nat} {P : Program} {Q : Exit → Act → World → Prop} {c : Code} (J : Nat → Act → World → Prop) {m a w} (h₀ : J m a w)
    (round : ∀ n' a w, J n' a w → c.wpIn F n P (Exit.then (fun a' w' => ∃ m, m < n' ∧ J m a' w') Q) a w) : (Code.loop c).wpIn F n P Q a w := by
  intro b k cs hro hb hr
  have key : ∀ j a w, J j a w → ∃ e a' w', Q e a' w' ∧ ArrivesIn (Machine.fenced P F) P (lone (b.atR a (.code c :: .inLoop c :: k)) cs w) b k cs e a' w' := by
    intro j
    induction j using Nat.strongRecOn with
    | _ j ih =>
      intro a w hI
      obtain ⟨e, a₁, w₁, hq, harr⟩ := round j a w hI b (.inLoop c :: k) cs hro hb hr
      cases e with
      | normal =>
        obtain ⟨m, hlt, hI₁⟩ := hq
        obtain ⟨e₂, a₂, w₂, hq₂, harr₂⟩ := ih m hlt a₁ w₁ hI₁
        exact ⟨e₂, a₂, w₂, hq₂, .of_steps (StepsIn.trans harr (.one (fenced_calm hb hr rfl) stepR_inLoop)) harr₂⟩
      | exit id => exact ⟨_, a₁, w₁, hq, .pass (x := .inLoop c) rfl (fun _ _ => .inl (by simp)) harr⟩
      | goto l => exact ⟨_, a₁, w₁, hq, .pass (x := .inLoop c) rfl (fun _ _ => .inl (by simp)) harr⟩
      | ret => exact ⟨_, a₁, w₁, hq, .pass (x := .inLoop c) rfl (fun _ _ => .inl (by simp)) harr⟩
      | panic ch => exact ⟨_, a₁, w₁, hq, .pass (x := .inLoop c) rfl (fun _ _ => .inl (by simp)) harr⟩
      | outgrown => exact ⟨_, a₁, w₁, hq, .pass (x := .inLoop c) rfl (fun _ _ => .inl (by simp)) harr⟩
  obtain ⟨e, a', w', hq, harr⟩ := key _ a w h₀
  exact ⟨e, a', w', hq, .of_steps (.one (fenced_calm hb hr rfl) stepR_loop) harr⟩
/-! ### what stands around: the round's record, the marks among the deferred calls -/
structure Env (n0 : Nat) (ro : Option Nat) (ds : List Deferred) (w : World) (g : Gh) : Prop where
  hn : n0 ≤ w.heap.size
  hr : ∀ l, ro = some l → l < w.heap.size ∧ g.o l = .other ∧ ∃ r, w.heap[l]? = some (.loop r)
  hd : ∀ d ∈ ds, ∃ D, d = { target := .collected D, args := #[] } ∧ n0 ≤ D ∧ D < w.heap.size ∧ g.o D = .other ∧ w.heap[D]? = some (.deferred (some []))
  nd : ds.Nodup
theorem Env.fr {n0 ro ds w w' g g'} (h : Env n0 ro ds w g) (f : Fr w w' g.o g'.o) : Env n0 ro ds w' g' :=
  ⟨Nat.le_trans h.hn f.size, fun l hl => by
    obtain ⟨h1, h2, r, h3⟩ := h.hr l hl
    have k := f.keep l h1 (.inl h2)
    exact ⟨Nat.lt_of_lt_of_le h1 f.size, k.2.trans h2, r, k.1.trans h3⟩,
  fun d hd => by
    obtain ⟨D, e, h0, h1, h2, h3⟩ := h.hd d hd
    have k := f.keep D h1 (.inl h2)
    exact ⟨D, e, h0, Nat.lt_of_lt_of_le h1 f.size, k.2.trans h2, k.1.trans h3⟩, h.nd⟩
def KeepsC (l : List Nat) (a a' : Act) : Prop := ∀ t, t ∉ l → a'.tmps.getD t undef = a.tmps.getD t undef
theorem KeepsC.refl (l a) : KeepsC l a a := fun _ _ => rfl
theorem KeepsC.trans {l a b c} (h : KeepsC l a b) (k : KeepsC l b c) : KeepsC l a c := fun t ht => (k t ht).trans (h t ht)
theorem KeepsC.sub {l l' a b} (h : KeepsC l a b) (hs : ∀ t ∈ l, t ∈ l') : KeepsC l' a b := fun t ht => h t fun hh => ht (hs t hh)
theorem look_dropT {l : List Nat} : ∀ {G : List (Nm × C)} {n : Nm}, look (dropT l G) n = .none ∨ (look (dropT l G) n = look G n ∧ ∀ i, n = .t i → i ∉ l)
  | [], n => .inl rfl
  | (m, c) :: r, n => by
    have ih := @look_dropT l r n
    cases m with
    | t i =>
      simp only [dropT]
      cases hc : l.contains i with
      | true =>
        simp only []
        by_cases e : n = .t i
        · subst e
          rcases ih with ih | ⟨_, ih⟩
          · exact .inl ih
          · exact absurd (by simpa using hc) (ih i rfl)
        · rcases ih with ih | ih
          · exact .inl ih
          · exact .inr ⟨by simp only [look, if_neg e]; exact ih.1, ih.2⟩
      | false =>
        simp only [look]
        by_cases e : n = .t i
        · subst e
          exact .inr ⟨by simp, fun j hj => by cases hj; simpa using hc⟩
        · rw [if_neg e, if_neg e]; exact ih
    | row h =>
      simp only [dropT, look]
      by_cases e : n = .row h
      · subst e; exact .inr ⟨by simp, fun j hj => by cases hj⟩
      · rw [if_neg e, if_neg e]; exact ih
    | box h =>
      simp only [dropT, look]
      by_cases e : n = .box h
      · subst e; exact .inr ⟨by simp, fun j hj => by cases hj⟩
      · rw [if_neg e, if_neg e]; exact ih
theorem Rel.dropT {G nt a a3 w g} {l : List Nat} (r : Rel (look G) nt a3 w g) (hk : KeepsC l a a3) (hs : a.tmps.size = nt) (hd : a.defers = []) : Rel (look (Go.Proofs.YtdpflafjfkooeaaGreatDoorG.dropT l G)) nt a w g := by
  refine ⟨hs, hd, r.tags, r.gl, fun n => ?_⟩
  rcases @look_dropT l G n with h | ⟨h, h2⟩
  · rw [h]; cases n <;> trivial
  · rw [h]
    have hc := r.cr n
    cases n with
    | t i =>
      cases hg : look G (.t i) <;> rw [hg] at hc <;> first | trivial | skip
      have hx : XR w g (a3.tmps.getD i undef) _ := hc
      rw [hk i (h2 i rfl)] at hx
      exact hx
    | row k => cases hg : look G (.row k) <;> rw [hg] at hc <;> exact hc
    | box k => cases hg : look G (.box k) <;> rw [hg] at hc <;> exact hc
theorem Rel.setPs {nt w g} : ∀ {ps : List Nat} {us : List Value} {xs : List X} {G a}, Rel (look G) nt a w g → All2 (XR w g) us xs → (∀ p ∈ ps, p < nt) → ps.length = xs.length →
    Rel (look (Go.Proofs.YtdpflafjfkooeaaGreatDoorG.setPs ps xs G)) nt { tmps := (ps.zip us).foldl (fun (t : Array Value) (p : Nat × Value) => t.setIfInBounds p.1 p.2) a.tmps, defers := [] } w g ∧
      KeepsC ps a { tmps := (ps.zip us).foldl (fun (t : Array Value) (p : Nat × Value) => t.setIfInBounds p.1 p.2) a.tmps, defers := [] }
  | [], us, xs, G, a, r, ha, hp, hl => by
    refine ⟨?_, fun _ _ => rfl⟩
    have : a = { tmps := a.tmps, defers := [] } := by have := r.df; cases a; simp_all
    cases xs <;> (simp only [Go.Proofs.YtdpflafjfkooeaaGreatDoorG.setPs, List.zip_nil_left, List.foldl_nil]; rw [← this]; exact r)
  | p :: ps, us, [], G, a, r, ha, hp, hl => by simp at hl
  | p :: ps, us, x :: xs, G, a, r, ha, hp, hl => by
    cases us with
    | nil => have := ha.1; simp at this
    | cons u us =>
      have r1 : Rel (look ((.t p, .t x) :: G)) nt (a.put (some p) u) w g := r.putX (hp p (by simp)) ha.head
      obtain ⟨h1, h2⟩ := Rel.setPs (ps := ps) (us := us) (xs := xs) r1 ha.tail (fun q hq => hp q (by simp [hq])) (by simpa using hl)
      refine ⟨h1, fun t ht => ?_⟩
      have e := h2 t (fun hh => ht (by simp [hh]))
      have hne : p ≠ t := fun e => ht (by simp [e])
      have e2 : (a.put (some p) u).tmps.getD t undef = a.tmps.getD t undef := by
        simp [Act.put, Array.getD_eq_getD_getElem?, Array.getElem?_setIfInBounds, hne]
      exact e.trans e2
theorem Rel.putO {Γ nt a w g} (r : Rel Γ nt a w g) {l : Nat} (hl : g.o l = .other) (o : Obj) : Rel Γ nt a (w.putObj l o) g :=
  r.ext ⟨by simp, fun b hb _ => ⟨World.putObj_heap_other (fun e => hb (by rw [e]; exact hl)), rfl⟩, fun b hb => by simpa using r.tags b hb, fun _ _ => rfl, fun _ _ => rfl⟩
theorem Fr.putO {w0 w o0 o1} (f : Fr w0 w o0 o1) {l : Nat} (hl : w0.heap.size ≤ l) (o : Obj) : Fr w0 (w.putObj l o) o0 o1 :=
  ⟨f.os, f.tape, f.output, by simpa using f.size, fun b hb ho => ⟨(World.putObj_heap_other (by omega)).trans (f.keep b hb ho).1, (f.keep b hb ho).2⟩, fun b hb ho => ⟨(f.bx b hb ho).1, (f.bx b hb ho).2.trans (Shp.of_eq (World.putObj_heap_other (by omega)))⟩⟩
theorem Env.putO {n0 ro ds w g} (h : Env n0 ro ds w g) {l : Nat} (o : Obj) (h1 : ∀ l0, ro = some l0 → l0 ≠ l) (h2 : ∀ D, w.heap[D]? = some (.deferred (some [])) → D ≠ l) : Env n0 ro ds (w.putObj l o) g :=
  ⟨by simpa using h.hn, fun l0 hl => by
    obtain ⟨q1, q2, r, q3⟩ := h.hr l0 hl
    exact ⟨by simpa using q1, q2, r, (World.putObj_heap_other (h1 l0 hl)).trans q3⟩,
  fun d hd => by
    obtain ⟨D, e, q0, q1, q2, q3⟩ := h.hd d hd
    exact ⟨D, e, q0, by simpa using q1, q2, (World.putObj_heap_other (h2 D q3)).trans q3⟩, h.nd⟩
theorem enter_any {P : Program} {ro : Option Nat} {w : World} (h : ∀ l, ro = some l → ∃ r, w.heap[l]? = some (.loop r)) (fn : FuncId) (tmps : Array Value) (ps : Array Tmp) (x y : Code) :
    ∃ (l : Nat) (mark : List Deferred) (w1 : World) (dd : Nat), (Instr.enterLoop fn tmps ps x y ro).run P w = .ok (l, mark) w1 ∧ w1.heap[l]? = some (.loop ⟨.ready, none, fn, tmps, ps, x, y, dd⟩) ∧ w.heap.size ≤ l ∧
      (∀ b, b < w.heap.size → w1.heap[b]? = w.heap[b]?) ∧ w1.os = w.os ∧ w1.tape = w.tape ∧ w1.output = w.output ∧ w.heap.size ≤ w1.heap.size ∧
      (mark = [] ∨ ∃ D, mark = [{ target := .collected D, args := #[] }] ∧ w.heap.size ≤ D ∧ D < w1.heap.size ∧ w1.heap[D]? = some (.deferred (some []))) := by
  cases ro with
  | none =>
    refine ⟨_, _, _, w.heap.size, run_enterLoop_outer fn tmps ps x y, ?_, by simp, fun b hb => ?_, rfl, rfl, rfl, by simp; omega, .inr ⟨w.heap.size, rfl, Nat.le_refl _, by simp; omega, ?_⟩⟩
    · have := World.alloc_heap_new (w.alloc (.deferred (some []))) (.loop ⟨.ready, none, fn, tmps, ps, x, y, w.heap.size⟩); rwa [World.size_alloc] at this
    · rw [Below.heap_alloc _ _ _ (by simp; omega), Below.heap_alloc _ _ _ hb]
    · exact (Below.heap_alloc _ _ _ (by simp)).trans (World.alloc_heap_new w _)
  | some l0 =>
    obtain ⟨r, hr⟩ := h l0 rfl
    exact ⟨_, _, _, r.defers, run_enterLoop_inner hr fn tmps ps x y, World.alloc_heap_new w _, Nat.le_refl _, fun b hb => Below.heap_alloc _ _ _ hb, rfl, rfl, rfl, by simp, .inl rfl⟩
section
variable {P : Program} {T : Tab} {O : Orc} {nt : Nat} {vars : Nat → List Nat} (hT : Tok P T) (hO : OrcOk P O) (hm : P.follows .mixedOrders = true)
include hT hO hm
def CodeOk (P : Program) (nt : Nat) (c : Code) (G : List (Nm × C)) (Qg : GEx → List (Nm × C) → Prop) : Prop :=
  ∀ {n0 : Nat} {ro : Option Nat} {ds : List Deferred} {a : Act} {w w0 : World} {g g0 : Gh} {Q : Exit → Act → World → Prop}, Rel (look G) nt a w g → Fr w0 w g0.o g.o → Env n0 ro ds w g →
    (∀ e G' a' w' g' ds', Qg e G' → Rel (look G') nt a' w' g' → Fr w0 w' g0.o g'.o → Env n0 ro ds' w' g' → KeepsC (wrs c) a a' → Q e.ex (shA ds' a') w') → c.wpIn (RF ro) 0 P Q (shA ds a) w
omit hT hm in
theorem range_ok {gx : Operand} {ps : Array Tmp} {x y : Code} {G : List (Nm × C)} {Qg : GEx → List (Nm × C) → Prop}
    (ihx : ∀ {G : List (Nm × C)} {Qg : GEx → List (Nm × C) → Prop}, vCode T O nt vars x G Qg → CodeOk P nt x G Qg) (ihy : ∀ {G : List (Nm × C)} {Qg : GEx → List (Nm × C) → Prop}, vCode T O nt vars y G Qg → CodeOk P nt y G Qg)
    (h : vCode T O nt vars (.rangeFunc gx ps x y) G Qg) : CodeOk P nt (.rangeFunc gx ps x y) G Qg := by
  intro n0 ro ds a w w0 g g0 Q r hf henv hQ
  simp only [vCode] at h
  split at h
  case h_2 => exact h.elim
  rename_i gf caps hgx
  obtain ⟨els, hit, hlen, hps, D, I, hI0, hround, hend⟩ := hO.it _ _ _ h
  have hx := opX_rel r gx
  rw [hgx] at hx
  have hx' : SVR w g.o (a.eval gx) (.clo gf caps) := hx
  obtain ⟨lb, hlb, hcap⟩ : ∃ lb : List Value, a.eval gx = .func (.func gf) #[] lb.toArray ∧ All2 (SVR w g.o) lb caps := by
    generalize a.eval gx = u at hx'
    cases hx' with
    | clo _ _ us hu hr => exact ⟨us, rfl, hu, hr⟩
  refine wpIn_rangeFunc ?_
  intro fn _
  obtain ⟨l, mark, w1, dd, henter, hl1, hwl, hold, hos, htape, hout, hsz, hmark⟩ := enter_any (P := P) (fun l hl => (henv.hr l hl).2.2) fn a.tmps ps x y
  have hlo : g.o l = .other := by
    cases hgo : g.o l with
    | other => rfl
    | _ => exact absurd (r.tags l (by rw [hgo]; simp)) (by omega)
  have ext1 : Ext w w1 g g none fun k => ¬ Unm (look G) k := ⟨hsz, fun b hb _ => ⟨hold b (r.tags b hb), rfl⟩, fun b hb => Nat.lt_of_lt_of_le (r.tags b hb) hsz, fun _ _ => rfl, fun _ _ => rfl⟩
  have r1 := r.ext ext1
  have f1 : Fr w w1 g.o g.o := ⟨hos, htape, hout, hsz, fun b hb _ => ⟨hold b hb, rfl⟩, fun b hb ⟨k, hk⟩ => ⟨by rw [hk]; rfl, Shp.of_eq (hold b hb)⟩⟩
  have env1 : Env n0 ro (mark ++ ds) w1 g := by
    have e := henv.fr f1
    rcases hmark with rfl | ⟨D, rfl, hD1, hD2, hD3⟩
    · exact e
    · refine ⟨e.hn, e.hr, fun d hd => ?_, ?_⟩
      · rcases List.mem_append.1 hd with hd | hd
        · have hd' : d = { target := .collected D, args := #[] } := by simpa using hd
          refine ⟨D, hd', Nat.le_trans henv.hn hD1, hD2, ?_, hD3⟩
          cases hgo : g.o D with
          | other => rfl
          | _ => exact absurd (r.tags D (by rw [hgo]; simp)) (by omega)
        · exact e.hd d hd
      · refine List.nodup_cons.2 ⟨fun hin => ?_, henv.nd⟩
        obtain ⟨D', e', _, q, _⟩ := henv.hd _ hin
        injection e' with e1 _
        injection e1 with e1
        omega
  have hro : ∀ l0, ro = some l0 → l0 ≠ l := fun l0 h0 => by have := (henv.hr l0 h0).1; omega
  have hw0l : w0.heap.size ≤ l := Nat.le_trans hf.size hwl
  have hgI : ∀ b, g.callee.o b = .imm → g.o b = .imm := fun b hb => by
    simp only [Gh.callee] at hb
    split at hb
    · assumption
    · cases hb
  refine ⟨l, mark, w1, { target := .fn (.func gf) lb.toArray, args := #[.func (.yield l) #[] #[]] }, w1, gf, #[.func (.yield l) #[] #[]] ++ lb.toArray, w1, henter, ?_, fun _ _ => trivial, ?_, fun hh => by simp [RF, Fence.wide] at hh, ?_⟩
  · rw [shA_eval]; simp only [resolve, hlb]; simp [go_sem]
  · simp [invoke, go_sem, hit.callable]
  refine callsIn_RF.2 ?_
  have hargs : #[Value.func (.yield l) #[] #[]] ++ lb.toArray = (Value.func (.yield l) #[] #[] :: lb).toArray := by simp
  rw [hargs]
  refine Calls.mono (hit.run w1 lb g.callee (fun b => by simp only [Gh.callee]; split <;> simp) (fun b hb => ?_) (r1.gl.keep fun q => ⟨rfl, by simp [Gh.callee, q]⟩) ?_ l
    (fun k W => ∃ G1 g1, I k G1 ∧ Rel (look G1) nt a W g1 ∧ Fr w0 W g0.o g1.o ∧ Env n0 ro (mark ++ ds) W g1 ∧ W.heap[l]? = some (.loop ⟨.ready, none, fn, a.tmps, ps, x, y, dd⟩) ∧ g1.o l = .other ∧ ∀ b, g.o b = .imm → W.heap[b]? = w1.heap[b]? ∧ g1.o b = .imm)
    (fun W => ∃ c G1 g1, ((c = .ret ∧ Qg .ret G1) ∨ ∃ id, c = .exit id ∧ Qg (.exit id) G1) ∧ Rel (look G1) nt a W g1 ∧ Fr w0 W g0.o g1.o ∧ Env n0 ro (mark ++ ds) W g1 ∧ W.heap[l]? = some (.loop ⟨.done, some c, fn, a.tmps, ps, x, y, dd⟩) ∧ g1.o l = .other)
    ?_ ⟨dropT D G, g, hI0, r1.sub fun n => look_dropT.elim (fun h => .inr h) (fun h => .inl h.1), hf.trans f1, env1, hl1, hlo, fun b hb => ⟨rfl, hb⟩⟩) ?_
  · exact Nat.lt_of_lt_of_le (r.tags b fun e => hb (by simp [Gh.callee, e])) hsz
  · exact hcap.mono fun u s hs => SVR.mono (fun b hb => ⟨by simp [Gh.callee, hb], hold b (r.tags b (by rw [hb]; simp))⟩) hs
  · -- a round
    rintro k xs W hk ⟨G1, g1, hI1, rW, fW, eW, hl, hlo1, himm⟩ hszW hkeep us hus
    have hxl : xs.length = ps.size := hlen xs (List.mem_of_getElem? hk)
    have hus1 : All2 (XR W g1) us xs := hus.mono' fun u z hz hx => by
      have hs := hit.sval xs (List.mem_of_getElem? hk) z hz
      have key : ∀ u s, SVR W g.callee.o u s → SVR W g1.o u s := fun u s hs => SVR.mono (fun b hb => ⟨(himm b (hgI b hb)).2, rfl⟩) hs
      cases z with
      | tup _ => exact hs.elim
      | p p => cases p with
        | one q => cases q <;> first | exact key _ _ hx | exact hs.elim
        | agg qs =>
          obtain ⟨cs, hv, hall⟩ := hx
          refine ⟨cs, hv, hall.mono' fun u q hq hr => ?_⟩
          obtain ⟨s, rfl⟩ := hs q hq
          exact key _ _ hr
    have hszl : us.toArray.size = ps.size := by have := hus.1; simp; omega
    have hy := run_yield (P := P) (args := us.toArray) hl hszl
    refine ⟨_, _, _, _, hy, roundIn_of_wpIn (F := Fence.wide) trivial ?_⟩
    have hfold : (ps.zip us.toArray).foldl (fun (tmps : Array Value) (x : Tmp × Value) => match x with | (t, a) => tmps.setIfInBounds t a) a.tmps = (ps.toList.zip us).foldl (fun (t : Array Value) (p : Nat × Value) => t.setIfInBounds p.1 p.2) a.tmps := by
      rw [← Array.foldl_toList, Array.toList_zip]
    obtain ⟨ra, ka⟩ := rW.setPs hus1 hps (by simpa using hxl.symm)
    have hvx := hround k xs G1 hk hI1
    have envW : Env 0 (some l) [] W g1 := ⟨Nat.zero_le _, fun l' hl' => by cases hl'; exact ⟨(Array.getElem?_eq_some_iff.1 hl).1, hlo1, _, hl⟩, fun d hd => absurd hd (by simp), List.nodup_nil⟩
    rw [hfold]
    refine ihx hvx (ro := some l) (ds := []) (w0 := W) (g0 := g1) ra (Fr.refl _ _) envW ?_
    rintro e2 G2 a2 W2 g2 ds2 ⟨rfl, hvy⟩ r2 f2 env2 k2
    have hl2 : W2.heap[l]? = some (.loop ⟨.ready, none, fn, a.tmps, ps, x, y, dd⟩) := ((f2.keep l (Array.getElem?_eq_some_iff.1 hl).1 (.inl hlo1)).1).trans hl
    have hlo2 : g2.o l = .other := ((f2.keep l (Array.getElem?_eq_some_iff.1 hl).1 (.inl hlo1)).2).trans hlo1
    refine ⟨_, run_beginRound hl2 rfl, ?_⟩
    have hl3 : (W2.putObj l (.loop ⟨.busy, none, fn, a.tmps, ps, x, y, dd⟩)).heap[l]? = some (.loop ⟨.busy, none, fn, a.tmps, ps, x, y, dd⟩) := World.putObj_heap_same (Array.getElem?_eq_some_iff.1 hl2).1
    have r3 := r2.putO hlo2 (.loop ⟨.busy, none, fn, a.tmps, ps, x, y, dd⟩)
    have env3 : Env 0 (some l) ds2 (W2.putObj l (.loop ⟨.busy, none, fn, a.tmps, ps, x, y, dd⟩)) g2 := ⟨Nat.zero_le _, fun l' hl' => by cases hl'; exact ⟨by simpa using (Array.getElem?_eq_some_iff.1 hl2).1, hlo2, _, hl3⟩,
      fun d hd => by
        obtain ⟨D, q1, q2, q3, q4, q5⟩ := env2.hd d hd
        have hne : D ≠ l := fun e => by rw [e, hl2] at q5; simp at q5
        exact ⟨D, q1, q2, by simpa using q3, q4, (World.putObj_heap_other hne).trans q5⟩, env2.nd⟩
    refine ihy hvy (ro := some l) (ds := ds2) (w0 := W2.putObj l (.loop ⟨.busy, none, fn, a.tmps, ps, x, y, dd⟩)) (g0 := g2) r3 (Fr.refl _ _) env3 ?_
    intro e3 G3 a3 W3 g3 ds3 hq r4 f3 _ k3
    have hlt3 : l < (W2.putObj l (.loop ⟨.busy, none, fn, a.tmps, ps, x, y, dd⟩)).heap.size := (Array.getElem?_eq_some_iff.1 hl3).1
    have hl4 : W3.heap[l]? = some (.loop ⟨.busy, none, fn, a.tmps, ps, x, y, dd⟩) := ((f3.keep l hlt3 (.inl hlo2)).1).trans hl3
    have hlo4 : g3.o l = .other := ((f3.keep l hlt3 (.inl hlo2)).2).trans hlo2
    have hnoD : ∀ {w : World} {r : Loop}, w.heap[l]? = some (.loop r) → ∀ D, w.heap[D]? = some (.deferred (some [])) → D ≠ l := fun h1 D h2 e => by rw [e, h1] at h2; simp at h2
    have fin : ∀ jump : Option Code, (Instr.endRound l jump).run P W3 = .ok (.bool jump.isNone) (W3.putObj l (.loop ⟨if jump.isNone then .ready else .done, jump, fn, a.tmps, ps, x, y, dd⟩)) := fun jump => run_endRound jump hl4
    have relF : ∀ o : Obj, Rel (look (dropT (ps.toList ++ (wrs x ++ wrs y)) G3)) nt a (W3.putObj l o) g3 := fun o => by
      refine (r4.putO hlo4 o).dropT ?_ r.size r.df
      refine ((ka.sub fun t ht => ?_).trans (k2.sub fun t ht => ?_)).trans (k3.sub fun t ht => ?_)
      · exact List.mem_append_left _ ht
      · exact List.mem_append_right _ (List.mem_append_left _ ht)
      · exact List.mem_append_right _ (List.mem_append_right _ ht)
    have frF : ∀ o : Obj, Fr w0 (W3.putObj l o) g0.o g3.o := fun o => ((((fW.trans f2).putO hw0l _).trans f3).putO hw0l o)
    have envF : ∀ o : Obj, Env n0 ro (mark ++ ds) (W3.putObj l o) g3 := fun o => (((eW.fr f2).putO _ hro (hnoD hl2)).fr f3).putO o hro (hnoD hl4)
    have hlF : ∀ o : Obj, (W3.putObj l o).heap[l]? = some o := fun o => World.putObj_heap_same (Array.getElem?_eq_some_iff.1 hl4).1
    have immF : ∀ (o : Obj) b, g.o b = .imm → (W3.putObj l o).heap[b]? = W.heap[b]? ∧ g3.o b = .imm := fun o b hb => by
      have hbl : b ≠ l := fun e => by rw [e, hlo] at hb; cases hb
      obtain ⟨i1, i2⟩ := himm b hb
      have hbW : b < W.heap.size := Nat.lt_of_lt_of_le (Nat.lt_of_lt_of_le (r.tags b (by rw [hb]; simp)) hsz) hszW
      have j2 := f2.keep b hbW (.inr i2)
      have hb2 : b < (W2.putObj l (.loop ⟨.busy, none, fn, a.tmps, ps, x, y, dd⟩)).heap.size := by simpa using Nat.lt_of_lt_of_le hbW f2.size
      have j3 := f3.keep b hb2 (.inr (j2.2.trans i2))
      exact ⟨(World.putObj_heap_other hbl).trans (j3.1.trans ((World.putObj_heap_other hbl).trans j2.1)), j3.2.trans (j2.2.trans i2)⟩
    have szF : ∀ o : Obj, W.heap.size ≤ (W3.putObj l o).heap.size := fun o => by
      have := f2.size; have := f3.size; simp at *; omega
    cases e3 with
    | normal => exact ⟨_, _, fin none, .inl ⟨rfl, ⟨_, g3, hq, relF _, frF _, envF _, hlF _, hlo4, fun b hb => ⟨((immF _ b hb).1).trans (himm b hb).1, (immF (.loop default) b hb).2⟩⟩, szF _, fun b hb => (immF _ b (hgI b hb)).1⟩⟩
    | ret => exact ⟨_, _, fin (some .ret), .inr ⟨rfl, .ret, _, g3, .inl ⟨rfl, hq⟩, relF _, frF _, envF _, hlF _, hlo4⟩⟩
    | exit id => exact ⟨_, _, fin (some (.exit id)), .inr ⟨rfl, .exit id, _, g3, .inr ⟨id, rfl, hq⟩, relF _, frF _, envF _, hlF _, hlo4⟩⟩
    | panic v => exact hq.elim
    | goto l => exact hq.elim
  · -- behind the iterator
    have hnoD : ∀ {w : World} {r : Loop}, w.heap[l]? = some (.loop r) → ∀ D, w.heap[D]? = some (.deferred (some [])) → D ≠ l := fun h1 D h2 e => by rw [e, h1] at h2; simp at h2
    rintro e W ⟨⟨v, rfl⟩, (⟨G1, g1, hI1, rW, fW, eW, hl, hlo1, _⟩ | ⟨c, G1, g1, hq, rW, fW, eW, hl, hlo1⟩)⟩
    · exact ⟨none, _, run_endLoop hl (by simp), hQ .normal G1 a _ g1 (mark ++ ds) (hend G1 hI1) (rW.putO hlo1 _) (fW.putO hw0l _) (eW.putO _ hro (hnoD hl)) (KeepsC.refl _ _)⟩
    · refine ⟨some c, _, run_endLoop hl (by simp), ?_⟩
      rcases hq with ⟨rfl, hq⟩ | ⟨id, rfl, hq⟩
      · exact wpIn_ret (hQ .ret G1 a _ g1 (mark ++ ds) hq (rW.putO hlo1 _) (fW.putO hw0l _) (eW.putO _ hro (hnoD hl)) (KeepsC.refl _ _))
      · exact wpIn_exit (hQ (.exit id) G1 a _ g1 (mark ++ ds) hq (rW.putO hlo1 _) (fW.putO hw0l _) (eW.putO _ hro (hnoD hl)) (KeepsC.refl _ _))
theorem vCode_ok : ∀ (c : Code) {G : List (Nm × C)} {Qg : GEx → List (Nm × C) → Prop}, vCode T O nt vars c G Qg → CodeOk P nt c G Qg := by
  intro c
  induction c with
  | skip => intro G Qg h n0 ro ds a w w0 g g0 Q r hf he hQ; exact wpIn_skip (hQ .normal G a w g ds h r hf he (KeepsC.refl _ _))
  | label l => intro G Qg h n0 ro ds a w w0 g g0 Q r hf he hQ; exact wpIn_label (hQ .normal G a w g ds h r hf he (KeepsC.refl _ _))
  | region id ops draw =>
    intro G Qg h n0 ro ds a w w0 g g0 Q r hf he hQ
    simp only [vCode] at h
    obtain ⟨G, r, h⟩ := vSpl_rel h r
    rcases vOps_ok (P := P) (ops := ops) hT hO (fun j => by simp) h with ⟨acts, G', h1, h2, h3⟩ | ⟨acts, G', rd, v, h1, h2, h3, h4⟩
    case inr =>
      refine panRegion_ok (P := P) hT hO hm (by simpa using h1) h2 (by simpa using h3) h4 ro ds r fun hq a' w' g' t' f' k' hsz hdf => ?_
      exact hQ (.panic v) [] a' w' g' ds hq ⟨hsz, hdf, t', r.gr' f', fun n => by cases n <;> trivial⟩ (hf.trans f') (he.fr f') fun t ht => k' t fun o ho hd => ht (List.mem_filterMap.2 ⟨o, ho, hd⟩)
    obtain ⟨hok, hq⟩ := h3
    have reg : Reg P nt ops draw G acts G' := ⟨by simpa using h1, h2, by simpa using hok⟩
    refine reg.wp hm ro ds r fun a' w' g' r' f' k' => ?_
    obtain ⟨g2, r2, f2⟩ := plain_rel (vars := vars id) r'
    exact hQ .normal _ a' w' g2 ds hq r2 ((hf.trans f').trans f2) (he.fr (f'.trans f2)) fun t ht => k' t fun o ho hd => ht (List.mem_filterMap.2 ⟨o, ho, hd⟩)
  | seq x y ihx ihy =>
    intro G Qg h n0 ro ds a w w0 g g0 Q r hf he hQ
    simp only [vCode] at h
    refine wpIn_seq (ihx h r hf he fun e G' a' w' g' ds' hq r' f' he' k' => ?_)
    have k1 : KeepsC (wrs (x.seq y)) a a' := k'.sub fun t ht => List.mem_append_left _ ht
    cases e with
    | normal => exact ihy hq r' f' he' fun e2 G2 a2 w2 g2 ds2 hq2 r2 f2 he2 k2 => hQ _ _ _ _ _ _ hq2 r2 f2 he2 (k1.trans (k2.sub fun t ht => List.mem_append_right _ ht))
    | exit id => exact hQ _ _ _ _ _ _ hq r' f' he' k1
    | ret => exact hQ _ _ _ _ _ _ hq r' f' he' k1
    | panic v => exact hQ _ _ _ _ _ _ hq r' f' he' k1
    | goto l => exact hQ _ _ _ _ _ _ hq r' f' he' k1
  | cond c x y ihx ihy =>
    intro G Qg h n0 ro ds a w w0 g g0 Q r hf he hQ
    simp only [vCode] at h
    split at h
    · rename_i b hb
      have hx := opX_rel r c
      rw [hb] at hx
      have hv := (raw_of hx).1
      rw [← shA_eval ds] at hv
      split at h
      · exact wpIn_cond hv (ihx h r hf he fun e2 G2 a2 w2 g2 ds2 hq2 r2 f2 he2 k2 => hQ _ _ _ _ _ _ hq2 r2 f2 he2 (k2.sub fun t ht => List.mem_append_left _ ht))
      · exact wpIn_cond hv (ihy h r hf he fun e2 G2 a2 w2 g2 ds2 hq2 r2 f2 he2 k2 => hQ _ _ _ _ _ _ hq2 r2 f2 he2 (k2.sub fun t ht => List.mem_append_right _ ht))
    · exact h.elim
  | block id x ih =>
    intro G Qg h n0 ro ds a w w0 g g0 Q r hf he hQ
    simp only [vCode] at h
    refine wpIn_block (ih h r hf he fun e G' a' w' g' ds' hq r' f' he' k' => ?_)
    cases e with
    | normal => exact hQ _ _ _ _ _ _ hq r' f' he' k'
    | exit id' =>
      simp only [GEx.blk] at hq
      simp only [GEx.ex, Exit.inBlock]
      split
      · rename_i e; rw [if_pos e] at hq; exact hQ _ _ _ _ _ _ hq r' f' he' k'
      · rename_i e; rw [if_neg e] at hq; exact hQ _ _ _ _ _ _ hq r' f' he' k'
    | ret => exact hQ _ _ _ _ _ _ hq r' f' he' k'
    | panic v => exact hQ _ _ _ _ _ _ hq r' f' he' k'
    | goto l => exact hQ _ _ _ _ _ _ hq r' f' he' k'
  | loop x ih =>
    intro G Qg h n0 ro ds a w w0 g g0 Q r hf he hQ
    simp only [vCode] at h
    obtain ⟨I, ⟨n1, hI⟩, hround⟩ := h
    refine wpIn_loop_ghost (fun n a1 w1 => ∃ a2 ds2 G g, a1 = shA ds2 a2 ∧ I n G ∧ Rel (look G) nt a2 w1 g ∧ Fr w0 w1 g0.o g.o ∧ Env n0 ro ds2 w1 g ∧ KeepsC (wrs x.loop) a a2) (m := n1) ⟨a, ds, G, g, rfl, hI, r, hf, he, KeepsC.refl _ _⟩ ?_
    rintro n _ w1 ⟨a1, ds1, G1, g1, rfl, hI1, r1, f1, e1, k1⟩
    refine ih (hround n G1 hI1) r1 f1 e1 fun e G' a' w' g' ds' hq r' f' he' k' => ?_
    have k2 : KeepsC (wrs x.loop) a a' := k1.trans k'
    cases e with
    | normal =>
      obtain ⟨k, hk, hI'⟩ := hq
      exact ⟨k, hk, a', ds', G', g', rfl, hI', r', f', he', k2⟩
    | exit id => exact hQ _ _ _ _ _ _ hq r' f' he' k2
    | ret => exact hQ _ _ _ _ _ _ hq r' f' he' k2
    | panic v => exact hQ _ _ _ _ _ _ hq r' f' he' k2
    | goto l => exact hQ _ _ _ _ _ _ hq r' f' he' k2
  | exit id => intro G Qg h n0 ro ds a w w0 g g0 Q r hf he hQ; exact wpIn_exit (hQ (.exit id) G a w g ds h r hf he (KeepsC.refl _ _))
  | ret => intro G Qg h n0 ro ds a w w0 g g0 Q r hf he hQ; exact wpIn_ret (hQ .ret G a w g ds h r hf he (KeepsC.refl _ _))
  | rangeFunc gx ps x y ihx ihy => intro G Qg h; exact range_ok hO ihx ihy h
  | scope => intro G Qg h; simp [vCode] at h
  | goto l => intro G Qg h n0 ro ds a w w0 g g0 Q r hf he hQ; exact wpIn_goto (hQ (.goto l) G a w g ds h r hf he (KeepsC.refl _ _))
  | refuse => intro G Qg h; simp [vCode] at h
end
end Go.Proofs.YtdpflafjfkooeaaGreatDoorG
