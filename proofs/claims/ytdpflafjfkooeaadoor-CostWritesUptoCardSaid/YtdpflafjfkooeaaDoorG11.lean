/- G11: regions, in whatever order they are run. -/
import Derived.Test.YtdpflafjfkooeaaDoorG10
namespace Go.Proofs.YtdpflafjfkooeaaDoorG
open Go Go.RowKit
set_option linter.unusedVariables false
set_option linter.unusedSimpArgs false

/-! ### what is checked of a region's actions -/
def TV.homes : TV → List Nat
  | .sr h | .pr h _ | .er h _ => [h]
  | .cb _ hs => hs
  | _ => []
def PX.homes : PX → List Nat
  | .one x => x.homes
  | .agg xs => xs.flatMap TV.homes
def X.homes : X → List Nat
  | .p x => x.homes
  | .tup xs => xs.flatMap PX.homes
def C.homes : C → List Nat
  | .t x => x.homes
  | .box _ xs => xs.flatMap TV.homes
  | _ => []
def Nm.homes : Nm → List Nat
  | .row h | .box h => [h]
  | _ => []
theorem TV.ment_homes {x : TV} {k} (h : x.ment k) : k ∈ x.homes := by cases x <;> simp_all [TV.ment, TV.homes]
theorem PX.ment_homes {x : PX} {k} (h : x.ment k) : k ∈ x.homes := by
  cases x with
  | one x => exact TV.ment_homes h
  | agg xs => obtain ⟨y, hy, hk⟩ := h; exact List.mem_flatMap.2 ⟨y, hy, TV.ment_homes hk⟩
theorem X.ment_homes {x : X} {k} (h : x.ment k) : k ∈ x.homes := by
  cases x with
  | p x => exact PX.ment_homes h
  | tup xs => obtain ⟨y, hy, hk⟩ := h; exact List.mem_flatMap.2 ⟨y, hy, PX.ment_homes hk⟩
theorem C.ment_homes {x : C} {k} (h : x.ment k) : k ∈ x.homes := by
  cases x with
  | t x => exact X.ment_homes h
  | box ty xs => obtain ⟨y, hy, hk⟩ := h; exact List.mem_flatMap.2 ⟨y, hy, TV.ment_homes hk⟩
  | _ => exact absurd h (by simp [C.ment])
theorem Nm.ment_homes {x : Nm} {k} (h : x.ment k) : k ∈ x.homes := by cases x <;> simp_all [Nm.ment, Nm.homes]

def maskOf (acc : List Nat) (es : List Edge) (s : Nat) : Nat := es.foldl (fun s e => if Region.binds .any e then s ||| 2 ^ e.on ||| acc.getD e.on 0 else s) s
def masks : List Oper → List Nat → List Nat
  | [], acc => acc
  | o :: r, acc => masks r (acc ++ [maskOf acc o.after.toList 0])
def edgesOk : Nat → List Oper → Bool
  | _, [] => true
  | i, o :: r => (o.after.toList.all fun e => !Region.binds .any e || decide (e.on < i)) && edgesOk (i + 1) r
def homeOk (m j h : Nat) : Bool := decide (h < 1000000) || decide ((h - 1000000) / 100 = j) || m.testBit ((h - 1000000) / 100)
def mentOk (ms : List Nat) : Nat → Acts → Bool
  | _, [] => true
  | j, (rd, wr) :: r => (wr.all fun p => (p.1.homes ++ p.2.homes).all (homeOk (ms.getD j 0) j)) && mentOk ms (j + 1) r
def hit (xs ys : List Nm) : Bool := xs.any fun x => ys.any fun y => decide (x = y)
def clash (a b : List Nm × List (Nm × C)) : Bool := hit (a.2.map (·.1)) (b.2.map (·.1)) || hit (a.2.map (·.1)) b.1 || hit a.1 (b.2.map (·.1))
/-- act j against those behind it: i, i + 1, .. -/
def apart1 (ms : List Nat) (j : Nat) (a : List Nm × List (Nm × C)) : Nat → Acts → Bool
  | _, [] => true
  | i, b :: r => ((ms.getD i 0).testBit j || !clash a b) && apart1 ms j a (i + 1) r
def apartAll (ms : List Nat) : Nat → Acts → Bool
  | _, [] => true
  | j, a :: r => apart1 ms j a (j + 1) r && apartAll ms (j + 1) r
def noTemp (G : List (Nm × C)) : Bool := G.all fun p => (p.1.homes ++ p.2.homes).all fun h => decide (h < 1000000)
def regOk (ops : List Oper) (draw : Bool) (G : List (Nm × C)) (acts : Acts) : Bool :=
  noTemp G && edgesOk 0 ops && mentOk (masks ops []) 0 acts && (!draw || apartAll (masks ops []) 0 acts)

/-! ### masks: all that must be ahead -/
theorem maskOf_bit {acc : List Nat} {j : Nat} : ∀ {es : List Edge} {s : Nat}, (maskOf acc es s).testBit j = true → s.testBit j = true ∨ ∃ e ∈ es, Region.binds .any e = true ∧ (j = e.on ∨ (acc.getD e.on 0).testBit j = true)
  | [], s, h => .inl h
  | e :: es, s, h => by
    simp only [maskOf, List.foldl_cons] at h
    rcases maskOf_bit (es := es) h with h1 | ⟨e', he', h1⟩
    · split at h1
      · rename_i hb
        rw [Nat.testBit_or, Nat.testBit_or, Nat.testBit_two_pow] at h1
        simp only [Bool.or_eq_true, decide_eq_true_eq] at h1
        rcases h1 with (h1 | h1) | h1
        · exact .inl h1
        · exact .inr ⟨e, by simp, hb, .inl h1.symm⟩
        · exact .inr ⟨e, by simp, hb, .inr h1⟩
      · exact .inl h1
    · exact .inr ⟨e', by simp [he'], h1⟩
theorem masks_pre : ∀ (r : List Oper) (acc : List Nat) (k : Nat), k < acc.length → (masks r acc).getD k 0 = acc.getD k 0
  | [], acc, k, h => rfl
  | o :: r, acc, k, h => by
    rw [masks, masks_pre r _ k (by simp; omega)]
    simp [List.getD, List.getElem?_append_left h]
theorem masks_at : ∀ (r : List Oper) (acc : List Nat) (k : Nat) (o : Oper), r[k]? = some o → ∃ acc' : List Nat, (∀ j, j < acc.length + k → acc'.getD j 0 = (masks r acc).getD j 0) ∧ (∀ j, acc.length + k ≤ j → acc'.getD j 0 = 0) ∧ (masks r acc).getD (acc.length + k) 0 = maskOf acc' o.after.toList 0
  | [], acc, k, o, h => by simp at h
  | o :: r, acc, 0, o', h => by
    simp at h; subst h
    refine ⟨acc, fun j hj => ?_, fun j hj => by simp [List.getD, List.getElem?_eq_none hj], ?_⟩
    · rw [masks, masks_pre r _ j (by simp; omega)]
      simp [List.getD, List.getElem?_append_left hj]
    · rw [masks, masks_pre r _ _ (by simp)]
      simp [List.getD]
  | o :: r, acc, k + 1, o', h => by
    obtain ⟨acc', h1, h2, h3⟩ := masks_at r (acc ++ [maskOf acc o.after.toList 0]) k o' (by simpa using h)
    simp only [List.length_append, List.length_cons, List.length_nil] at h1 h2 h3
    rw [show acc.length + (k + 1) = acc.length + (0 + 1) + k by omega]
    exact ⟨acc', h1, h2, h3⟩

section
variable {ops : Array Oper} (D : Nat → Bool)
/-- D is closed under what must be ahead. -/
def Closed (ops : Array Oper) (D : Nat → Bool) : Prop := ∀ k o, ops[k]? = some o → D k = true → ∀ e ∈ o.after.toList, Region.binds .any e = true → D e.on = true
theorem closed_mask {D} (hc : Closed ops D) : ∀ (k : Nat) (o : Oper), ops[k]? = some o → (∀ e ∈ o.after.toList, Region.binds .any e = true → D e.on = true) → ∀ j, ((masks ops.toList []).getD k 0).testBit j = true → D j = true := by
  intro k
  induction k using Nat.strongRecOn with
  | _ k ih =>
    intro o ho hr j hj
    obtain ⟨acc', h1, h2, h3⟩ := masks_at ops.toList [] k o (by simpa using ho)
    simp only [List.length_nil, Nat.zero_add] at h1 h2 h3
    rw [h3] at hj
    rcases maskOf_bit hj with hb | ⟨e, he, hb, hje⟩
    · simp at hb
    · have hde := hr e he hb
      rcases hje with rfl | hbit
      · exact hde
      · by_cases hlt : e.on < k
        · rw [h1 e.on hlt] at hbit
          cases hoe : ops[e.on]? with
          | none =>
            obtain ⟨hs, _⟩ := Array.getElem?_eq_some_iff.1 ho
            have : ops.size ≤ e.on := by simpa using hoe
            omega
          | some o' => exact ih e.on hlt o' hoe (fun e' he' hb' => hc e.on o' hoe hde e' he' hb') j hbit
        · rw [h2 e.on (by omega)] at hbit; simp at hbit
end

/-! ### states by what has been done -/
def actAt (acts : Acts) (j : Nat) : List Nm × List (Nm × C) := acts.getD j ([], [])
def nms (a : List Nm × List (Nm × C)) : List Nm := a.2.map (·.1)
section
variable (Γ0 : Nm → C) (acts : Acts) (D D' : Nat → Bool)
def valK : Nat → Nm → C
  | 0, n => Γ0 n
  | k + 1, n => if D k = true ∧ n ∈ nms (actAt acts k) then ups Γ0 (actAt acts k).2 n else valK k n
def tst : Nat → Nm → C
  | 0 => Γ0
  | k + 1 => ups (tst k) (actAt acts k).2
theorem tst_val (k : Nat) : tst Γ0 acts k = valK Γ0 acts (fun _ => true) k := by
  induction k with
  | zero => rfl
  | succ k ih =>
    funext n
    rw [tst, valK, ih]
    by_cases h : n ∈ nms (actAt acts k)
    · rw [if_pos ⟨rfl, h⟩]; exact ups_in h
    · rw [if_neg (by simp [h])]; exact ups_notin h
theorem val_congr (k : Nat) (n : Nm) (h : ∀ j, j < k → n ∈ nms (actAt acts j) → D j = D' j) : valK Γ0 acts D k n = valK Γ0 acts D' k n := by
  induction k with
  | zero => rfl
  | succ k ih =>
    rw [valK, valK, ih fun j hj => h j (by omega)]
    by_cases hn : n ∈ nms (actAt acts k)
    · rw [h k (by omega) hn]
    · simp [hn]
theorem val_skip (k m : Nat) (n : Nm) (hk : k ≤ m) (h : ∀ j, k ≤ j → j < m → n ∈ nms (actAt acts j) → D j = false) : valK Γ0 acts D m n = valK Γ0 acts D k n := by
  induction m with
  | zero => have : k = 0 := by omega
            rw [this]
  | succ m ih =>
    by_cases e : k = m + 1
    · rw [e]
    · rw [valK, if_neg, ih (by omega) fun j h1 h2 => h j h1 (by omega)]
      rintro ⟨h1, h2⟩
      have := h m (by omega) (by omega) h2
      rw [this] at h1; cases h1
/-- The text's state at i, at a name whose writers are the same. -/
theorem val_text (i N : Nat) (n : Nm) (hi : i ≤ N) (h : ∀ j, j < N → n ∈ nms (actAt acts j) → D j = decide (j < i)) : valK Γ0 acts D N n = tst Γ0 acts i n := by
  rw [tst_val, val_skip Γ0 acts D i N n hi fun j h1 h2 h3 => by rw [h j h2 h3]; simp; omega]
  exact val_congr Γ0 acts D _ i n fun j h1 h2 => by rw [h j (by omega) h2]; simp; omega
theorem val_ins (i N : Nat) (hi : i < N) (n : Nm) (hd : ∀ j, D' j = (decide (j = i) || D j)) (h : ∀ j, j < N → D j = true → n ∈ nms (actAt acts j) → n ∈ nms (actAt acts i) → j < i) :
    valK Γ0 acts D' N n = ups (valK Γ0 acts D N) (actAt acts i).2 n := by
  by_cases hn : n ∈ nms (actAt acts i)
  · rw [ups_in (Γ' := Γ0) hn, val_skip Γ0 acts D' (i + 1) N n (by omega) fun j h1 h2 h3 => ?_, valK, if_pos ⟨by simp [hd], hn⟩]
    rw [hd]
    cases hdj : D j with
    | true => have := h j h2 hdj h3 hn; omega
    | false => simp; omega
  · rw [ups_notin hn]
    exact val_congr Γ0 acts D' D N n fun j h1 h2 => by
      rw [hd]
      have : j ≠ i := fun e => hn (e ▸ h2)
      simp [this]
end
theorem chain_at {P nt} {ops : Array Oper} : ∀ {acts : Acts} {i G G'}, Chain P nt ops i G acts G' → (∀ j, j < acts.length → StepOk P nt ops (i + j) (tst (look G) acts j) (actAt acts j).1 (actAt acts j).2) ∧ look G' = tst (look G) acts acts.length := by
  intro acts
  induction acts with
  | nil => intro i G G' h; cases h; exact ⟨fun j hj => by simp at hj, rfl⟩
  | cons a acts ih =>
    intro i G G' h
    cases h with
    | cons _ _ rd wr _ _ h1 h2 =>
      obtain ⟨e1, e2⟩ := ih h2
      have hshift : ∀ j, tst (look (wr ++ G)) acts j = tst (look G) ((rd, wr) :: acts) (j + 1) := fun j => by
        induction j with
        | zero => simp [tst, actAt, look_append]
        | succ j ihj => rw [tst, ihj]; simp [tst, actAt]
      refine ⟨fun j hj => ?_, ?_⟩
      · cases j with
        | zero => exact h1
        | succ j =>
          have := e1 j (by simpa using hj)
          rw [hshift] at this
          rw [show i + (j + 1) = i + 1 + j by omega]
          exact this
      · rw [e2, hshift]; rfl

/-! ### the checks, taken apart -/
theorem edges_at {ops : List Oper} {i k : Nat} {o : Oper} (h : edgesOk i ops = true) (ho : ops[k]? = some o) : ∀ e ∈ o.after.toList, Region.binds .any e = true → e.on < i + k := by
  induction ops generalizing i k with
  | nil => simp at ho
  | cons p ps ih =>
    simp only [edgesOk, Bool.and_eq_true] at h
    cases k with
    | zero =>
      simp at ho; subst ho
      intro e he hb
      have := List.all_eq_true.1 h.1 e he
      simp [hb] at this; omega
    | succ k =>
      intro e he hb
      have := ih h.2 (by simpa using ho) e he hb
      omega
theorem ment_at {ms : List Nat} {acts : Acts} {i j : Nat} (h : mentOk ms i acts = true) (hj : j < acts.length) {p} (hp : p ∈ (actAt acts j).2) {k} (hk : k ∈ p.1.homes ++ p.2.homes) : homeOk (ms.getD (i + j) 0) (i + j) k = true := by
  induction acts generalizing i j with
  | nil => simp at hj
  | cons a acts ih =>
    obtain ⟨rd, wr⟩ := a
    simp only [mentOk, Bool.and_eq_true] at h
    cases j with
    | zero => exact List.all_eq_true.1 (List.all_eq_true.1 h.1 p hp) k hk
    | succ j =>
      have := ih h.2 (by simpa using hj) hp
      rwa [show i + 1 + j = i + (j + 1) by omega] at this
theorem hit_of {xs ys : List Nm} {n} (h1 : n ∈ xs) (h2 : n ∈ ys) : hit xs ys = true := by
  simp only [hit, List.any_eq_true]
  exact ⟨n, h1, n, h2, by simp⟩
theorem apart1_at {ms : List Nat} {j : Nat} {a} {acts : Acts} {i k : Nat} (h : apart1 ms j a i acts = true) (hk : k < acts.length) : (ms.getD (i + k) 0).testBit j = true ∨ clash a (actAt acts k) = false := by
  induction acts generalizing i k with
  | nil => simp at hk
  | cons b acts ih =>
    simp only [apart1, Bool.and_eq_true, Bool.or_eq_true, Bool.not_eq_true'] at h
    cases k with
    | zero => exact h.1
    | succ k =>
      have := ih h.2 (by simpa using hk)
      rwa [show i + 1 + k = i + (k + 1) by omega] at this
theorem apart_at {ms : List Nat} {acts : Acts} {i j k : Nat} (h : apartAll ms i acts = true) (hj : j < k) (hk : k < acts.length) : (ms.getD (i + k) 0).testBit (i + j) = true ∨ clash (actAt acts j) (actAt acts k) = false := by
  induction acts generalizing i j k with
  | nil => simp at hk
  | cons a acts ih =>
    simp only [apartAll, Bool.and_eq_true] at h
    cases j with
    | zero =>
      obtain ⟨m, rfl⟩ : ∃ m, k = m + 1 := ⟨k - 1, by omega⟩
      have := apart1_at h.1 (k := m) (by simpa using hk)
      rw [show i + 1 + m = i + (m + 1) by omega] at this
      exact this
    | succ j =>
      obtain ⟨m, rfl⟩ : ∃ m, k = m + 1 := ⟨k - 1, by omega⟩
      have := ih h.2 (j := j) (k := m) (by omega) (by simpa using hk)
      rw [show i + 1 + m = i + (m + 1) by omega, show i + 1 + j = i + (j + 1) by omega] at this
      exact this

/-- Where nothing of the temporary homes is spoken of. -/
theorem noTemp_unm {G : List (Nm × C)} (h : noTemp G = true) (n : Nm) (k : Nat) (hk : 1000000 ≤ k) : ¬ (look G n).ment k ∧ (n.ment k → look G n = .none) := by
  induction G with
  | nil => exact ⟨by simp [look, C.ment], fun _ => rfl⟩
  | cons p G ih =>
    simp only [noTemp, List.all_cons, Bool.and_eq_true] at h
    obtain ⟨m, c⟩ := p
    have h1 : ∀ x ∈ m.homes ++ c.homes, x < 1000000 := fun x hx => by simpa using List.all_eq_true.1 h.1 x hx
    simp only [look]
    split
    · rename_i e
      subst e
      refine ⟨fun hm => ?_, fun hm => ?_⟩
      · have := h1 k (List.mem_append_right _ (C.ment_homes hm)); omega
      · have := h1 k (List.mem_append_left _ (Nm.ment_homes hm)); omega
    · exact ih h.2
theorem ups_mem {Γ : Nm → C} {wr : List (Nm × C)} {n} (h : n ∈ wr.map (·.1)) : (n, ups Γ wr n) ∈ wr := by
  induction wr with
  | nil => simp at h
  | cons p wr ih =>
    by_cases e : n = p.1
    · subst e; simp [ups]
    · rw [ups, up_ne e]
      simp [e] at h
      exact List.mem_cons_of_mem _ (ih (by simpa using h))
/-- Homes of acts that have not been done are not spoken of. -/
theorem val_unm {G : List (Nm × C)} {acts : Acts} {ms : List Nat} {D : Nat → Bool} {N i : Nat} (hN : N ≤ acts.length) (h0 : noTemp G = true) (hm : mentOk ms 0 acts = true) (hD : ∀ j, j < N → D j = true → j ≠ i ∧ (ms.getD j 0).testBit i = false) :
    ∀ k, isTh i k → Unm (valK (look G) acts D N) k := by
  intro k hk n
  unfold isTh at hk
  induction N with
  | zero => exact noTemp_unm h0 n k (by omega)
  | succ N ih =>
    have ih' := ih (by omega) fun j hj => hD j (by omega)
    rw [valK]
    split
    · rename_i hc
      obtain ⟨hd, hn⟩ := hc
      have hmem := ups_mem (Γ := look G) hn
      have hh : ∀ x ∈ n.homes ++ (ups (look G) (actAt acts N).2 n).homes, homeOk (ms.getD N 0) N x = true := fun x hx => by
        have := ment_at hm (j := N) (by omega) hmem hx
        simpa using this
      have key : k ∉ n.homes ++ (ups (look G) (actAt acts N).2 n).homes := fun hx => by
        have := hh k hx
        obtain ⟨h1, h2⟩ := hD N (by omega) hd
        have e : (k - 1000000) / 100 = i := by omega
        simp only [homeOk, e, h2, Bool.or_eq_true, decide_eq_true_eq, Bool.or_false] at this
        omega
      exact ⟨fun hm => key (List.mem_append_right _ (C.ment_homes hm)), fun hm => absurd (List.mem_append_left _ (Nm.ment_homes hm)) key⟩
    · exact ih'

end Go.Proofs.YtdpflafjfkooeaaDoorG
