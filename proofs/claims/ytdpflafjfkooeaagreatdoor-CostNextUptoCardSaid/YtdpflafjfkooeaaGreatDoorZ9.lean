/- YtdpflafjfkooeaaGreatDoorZ9: a part of the proof, joined of its texts. -/
import Derived.Test.YtdpflafjfkooeaaGreatDoorZ8
/- G12: the laws of regions. -/
namespace Go.Proofs.YtdpflafjfkooeaaGreatDoorG
open Go Go.RowKit
set_option linter.unusedVariables false
set_option linter.unusedSimpArgs false
theorem closed_lt {ops : Array Oper} (he : edgesOk 0 ops.toList = true) (k : Nat) : Closed ops fun j => decide (j < k) := by
  intro i o ho hi e hm hb
  have := edges_at he (k := i) (by simpa using ho) e hm hb
  simp at hi ⊢; omega
theorem mask_lt {ops : Array Oper} (he : edgesOk 0 ops.toList = true) {j i : Nat} (hj : j < ops.size) (h : ((masks ops.toList []).getD j 0).testBit i = true) : i < j := by
  have := closed_mask (closed_lt he j) j ops[j] (Array.getElem?_eq_getElem hj) (fun e hm hb => by
    have := edges_at he (k := j) (o := ops[j]) (by simp [hj]) e hm hb
    simp; omega) i h
  simpa using this
section
variable {P : Program} {nt : Nat} {ops : Array Oper} {G G' : List (Nm × C)} {acts : Acts} {Q : Exit → Act → World → Prop}
structure Reg (P : Program) (nt : Nat) (ops : Array Oper) (draw : Bool) (G : List (Nm × C)) (acts : Acts) (G' : List (Nm × C)) : Prop where
  len : acts.length = ops.size
  chain : Chain P nt ops 0 G acts G'
  ok : regOk ops.toList draw G acts = true
theorem Reg.parts {draw} (h : Reg P nt ops draw G acts G') : noTemp G = true ∧ edgesOk 0 ops.toList = true ∧ mentOk (masks ops.toList []) 0 acts = true ∧ (draw = true → apartAll (masks ops.toList []) 0 acts = true) := by
  have := h.ok
  simp only [regOk, Bool.and_eq_true, Bool.or_eq_true, Bool.not_eq_true'] at this
  obtain ⟨⟨⟨h1, h2⟩, h3⟩, h4⟩ := this
  exact ⟨h1, h2, h3, fun hd => by rw [hd] at h4; simpa using h4⟩
theorem Reg.step {draw} (h : Reg P nt ops draw G acts G') {j : Nat} (hj : j < ops.size) : StepOk P nt ops j (tst (look G) acts j) (actAt acts j).1 (actAt acts j).2 := by
  have := (chain_at h.chain).1 j (by rw [h.len]; exact hj)
  simpa using this
/-- Temporaries that none of the operations writes. -/
def KeepsT (ops : Array Oper) (a a' : Act) : Prop := ∀ t, (∀ o ∈ ops.toList, o.dst ≠ some t) → a'.tmps.getD t undef = a.tmps.getD t undef
theorem KeepsT.refl (ops a) : KeepsT ops a a := fun _ _ => rfl
theorem KeepsT.put {ops a a'} (h : KeepsT ops a a') (i : Nat) (v : Value) : KeepsT ops a (a'.put (dstAt ops i) v) := fun t ht => by
  rw [← h t ht]
  cases hd : dstAt ops i with
  | none => rfl
  | some d =>
    have hne : d ≠ t := fun e => by
      unfold dstAt at hd
      cases ho : ops[i]? with
      | none => simp [ho] at hd
      | some o =>
        simp [ho] at hd
        exact ht o (by simpa using Array.mem_of_getElem? ho) (by rw [hd, e])
    simp [Act.put, Array.getD_eq_getD_getElem?, Array.getElem?_setIfInBounds, hne]
theorem Reg.plain {draw} (h : Reg P nt ops draw G acts G') (ro : Option Nat) (ds : List Deferred) {w0 : World} {g0 : Gh} {a0 : Act} (hK : ∀ a w g, Rel (look G') nt a w g → Fr w0 w g0.o g.o → KeepsT ops a0 a → Q .normal (shA ds a) w) :
    ∀ (m k : Nat) (a : Act) (w : World) (g : Gh), k + m = ops.size → Rel (tst (look G) acts k) nt a w g → Fr w0 w g0.o g.o → KeepsT ops a0 a → wpOpsIn (RF ro) 0 P ops Q (List.range' k m) (shA ds a) w := by
  obtain ⟨h1, h2, h3, _⟩ := h.parts
  intro m
  induction m with
  | zero =>
    intro k a w g hk r hf hkt
    have := (chain_at h.chain).2
    rw [h.len, show ops.size = k by omega] at this
    exact hK a w g (by rw [this]; exact r) hf hkt
  | succ m ih =>
    intro k a w g hk r hf hkt
    rw [List.range'_succ, wpOpsIn_cons]
    refine h.step (by omega) ro ds _ a w g Q _ (fun n hn => rfl) ?_ r fun v w' g' r' f' => ?_
    · rw [tst_val]
      refine val_unm (ms := masks ops.toList []) (by rw [h.len]; omega) h1 h3 fun j hj _ => ⟨by omega, ?_⟩
      cases hb : ((masks ops.toList []).getD j 0).testBit k with
      | false => rfl
      | true => have := mask_lt h2 (by omega) hb; omega
    · exact ih (k + 1) _ w' g' (by omega) r' (hf.trans f') (hkt.put k v)
theorem count_set {l : List Bool} {i : Nat} (h : l[i]? = some false) : (l.set i true).count false + 1 = l.count false := by
  induction l generalizing i with
  | nil => simp at h
  | cons b l ih =>
    cases i with
    | zero => simp at h; subst h; simp
    | succ i =>
      have := ih (i := i) (by simpa using h)
      simp only [List.set_cons_succ, List.count_cons]
      omega
theorem all_true {l : List Bool} (h : l.count false = 0) {j : Nat} (hj : j < l.length) : l[j]? = some true := by
  rw [List.count_eq_zero] at h
  rw [List.getElem?_eq_getElem hj]
  cases hb : l[j] with
  | true => rfl
  | false => exact absurd (hb ▸ List.getElem_mem hj) h
theorem Reg.any (h : Reg P nt ops true G acts G') (ro : Option Nat) (ds : List Deferred) {w0 : World} {g0 : Gh} {a0 : Act} (hK : ∀ a w g, Rel (look G') nt a w g → Fr w0 w g0.o g.o → KeepsT ops a0 a → Q .normal (shA ds a) w) :
    ∀ (fuel : Nat) (listed : Array Bool) (a : Act) (w : World) (g : Gh), listed.size = ops.size → listed.toList.count false = fuel → Closed ops (fun j => listed.getD j false) →
      Rel (valK (look G) acts (fun j => listed.getD j false) ops.size) nt a w g → Fr w0 w g0.o g.o → KeepsT ops a0 a → wpAnyIn (RF ro) 0 P .any ops Q fuel listed (shA ds a) w := by
  obtain ⟨h1, h2, h3, h4⟩ := h.parts
  have h4 := h4 rfl
  have fin : ∀ (listed : Array Bool) a w g, listed.size = ops.size → (∀ j, j < ops.size → listed.getD j false = true) → Rel (valK (look G) acts (fun j => listed.getD j false) ops.size) nt a w g → Fr w0 w g0.o g.o → KeepsT ops a0 a → Q .normal (shA ds a) w := fun listed a w g hs hall r hf hkt => by
    refine hK a w g ?_ hf hkt
    have := (chain_at h.chain).2
    rw [this, h.len, tst_val]
    have e : valK (look G) acts (fun _ => true) ops.size = valK (look G) acts (fun j => listed.getD j false) ops.size := funext fun n => val_congr _ _ _ _ _ n fun j hj _ => (hall j hj).symm
    rw [e]
    exact r
  intro fuel
  induction fuel with
  | zero =>
    intro listed a w g hs hc hcl r hf hkt
    have hall : ∀ j, j < ops.size → listed.getD j false = true := fun j hj => by
      have := all_true hc (j := j) (by simpa [hs] using hj)
      simp at this
      simp [this]
    refine ⟨?_, fin listed a w g hs hall r hf hkt⟩
    unfold Region.ready
    rw [List.filter_eq_nil_iff]
    intro j hj
    have hj' : j < ops.size := by simpa using hj
    have := hall j hj'
    simp only [Array.getD_eq_getD_getElem?] at this ⊢
    have hlt : j < listed.size := by omega
    simp [hlt] at this ⊢
    simp [this]
  | succ fuel ih =>
    intro listed a w g hs hc hcl r hf hkt
    have hget : ∀ j, j < ops.size → listed.getD j true = listed.getD j false := fun j hj => by
      have hlt : j < listed.size := by omega
      simp [Array.getD_eq_getD_getElem?, hlt]
    have mem_ready : ∀ i, i ∈ Region.ready .any ops listed ↔ i < ops.size ∧ listed.getD i false = false ∧ ∀ o, ops[i]? = some o → ∀ e ∈ o.after.toList, Region.binds .any e = true → listed.getD e.on false = true := fun i => by
      unfold Region.ready
      rw [List.mem_filter, List.mem_range]
      constructor
      · rintro ⟨hi, hp⟩
        rw [hget i hi] at hp
        simp only [Bool.and_eq_true, Bool.not_eq_true'] at hp
        refine ⟨hi, hp.1, fun o ho e he hb => ?_⟩
        have := hp.2
        rw [ho] at this
        simp only [Option.map_some, Option.getD_some] at this
        have := Array.all_eq_true_iff_forall_mem.1 this e (by simpa using he)
        simpa [hb] using this
      · rintro ⟨hi, hl, he⟩
        refine ⟨hi, ?_⟩
        rw [hget i hi, hl, Array.getElem?_eq_getElem hi]
        simp only [Bool.not_false, Bool.true_and, Option.map_some, Option.getD_some]
        refine Array.all_eq_true_iff_forall_mem.2 fun e hm => ?_
        have := he ops[i] (Array.getElem?_eq_getElem hi) e (by simpa using hm)
        cases hb : Region.binds .any e with
        | false => simp
        | true => simp [this hb]
    refine ⟨fun hnil => ?_, fun i hi => ?_⟩
    · -- nothing is ready: all has been done
      refine fin listed a w g hs (fun j => ?_) r hf hkt
      induction j using Nat.strongRecOn with
      | _ j ihj =>
        intro hj
        cases hl : listed.getD j false with
        | true => rfl
        | false =>
          have : j ∈ Region.ready .any ops listed := (mem_ready j).2 ⟨hj, hl, fun o ho e he hb => by
            have hlt := edges_at h2 (k := j) (by simpa using ho) e he hb
            exact ihj e.on (by omega) (by omega)⟩
          rw [hnil] at this; cases this
    · obtain ⟨hiN, hil, hie⟩ := (mem_ready i).1 hi
      have hpre : ∀ j, ((masks ops.toList []).getD i 0).testBit j = true → listed.getD j false = true := fun j hj => closed_mask hcl i ops[i] (Array.getElem?_eq_getElem hiN) (fun e he hb => hie _ (Array.getElem?_eq_getElem hiN) e he hb) j hj
      have hnot : ∀ j, j < ops.size → listed.getD j false = true → ((masks ops.toList []).getD j 0).testBit i = false := fun j hj hd => by
        cases hb : ((masks ops.toList []).getD j 0).testBit i with
        | false => rfl
        | true =>
          have := closed_mask hcl j ops[j] (Array.getElem?_eq_getElem hj) (fun e he hb' => hcl j _ (Array.getElem?_eq_getElem hj) hd e he hb') i hb
          have hil' : listed.getD i false = true := this
          rw [hil] at hil'; cases hil'
      -- who clashes with i has been done just if it stands ahead of i
      have hord : ∀ j, j < ops.size → j ≠ i → (clash (actAt acts j) (actAt acts i) = true ∨ clash (actAt acts i) (actAt acts j) = true) → listed.getD j false = decide (j < i) := fun j hj hne hcl' => by
        rcases Nat.lt_or_gt_of_ne hne with hlt | hlt
        · have := apart_at h4 (j := j) (k := i) hlt (by rw [h.len]; exact hiN)
          simp only [Nat.zero_add] at this
          rcases this with hb | hno
          · rw [hpre j hb]; simp [hlt]
          · exfalso
            rcases hcl' with hc1 | hc1
            · rw [hc1] at hno; cases hno
            · have hsym : clash (actAt acts j) (actAt acts i) = true := by
                unfold clash hit at hc1 ⊢
                simp only [Bool.or_eq_true, List.any_eq_true, decide_eq_true_eq] at hc1 ⊢
                rcases hc1 with (⟨x, hx, y, hy, e⟩ | ⟨x, hx, y, hy, e⟩) | ⟨x, hx, y, hy, e⟩
                · exact .inl (.inl ⟨y, hy, x, hx, e.symm⟩)
                · exact .inr ⟨y, hy, x, hx, e.symm⟩
                · exact .inl (.inr ⟨y, hy, x, hx, e.symm⟩)
              rw [hsym] at hno; cases hno
        · have := apart_at h4 (j := i) (k := j) hlt (by rw [h.len]; exact hj)
          simp only [Nat.zero_add] at this
          have hnd : ¬ j < i := by omega
          rcases this with hb | hno
          · cases hd : listed.getD j false with
            | false => simp [hnd]
            | true => have := hnot j hj hd; rw [this] at hb; cases hb
          · exfalso
            rcases hcl' with hc1 | hc1
            · have hsym : clash (actAt acts i) (actAt acts j) = true := by
                unfold clash hit at hc1 ⊢
                simp only [Bool.or_eq_true, List.any_eq_true, decide_eq_true_eq] at hc1 ⊢
                rcases hc1 with (⟨x, hx, y, hy, e⟩ | ⟨x, hx, y, hy, e⟩) | ⟨x, hx, y, hy, e⟩
                · exact .inl (.inl ⟨y, hy, x, hx, e.symm⟩)
                · exact .inr ⟨y, hy, x, hx, e.symm⟩
                · exact .inl (.inr ⟨y, hy, x, hx, e.symm⟩)
              rw [hsym] at hno; cases hno
            · rw [hc1] at hno; cases hno
      refine h.step hiN ro ds _ a w g Q _ (fun n hn => ?_) ?_ r fun v w' g' r' f' => ?_
      · refine val_text (look G) acts _ i ops.size n (by omega) fun j hj hw => ?_
        by_cases e : j = i
        · subst e; rw [hil]; simp
        · refine hord j hj e (.inl ?_)
          unfold clash
          rw [show hit ((actAt acts j).2.map (·.1)) (actAt acts i).1 = true from hit_of (n := n) hw hn]; simp
      · refine val_unm (ms := masks ops.toList []) (by rw [h.len]; omega) h1 h3 fun j hj hd => ⟨fun e => ?_, hnot j hj hd⟩
        subst e
        have hd' : listed.getD j false = true := hd
        rw [hil] at hd'; cases hd'
      · have hlt : i < listed.size := by omega
        have hgi : ∀ j, (listed.setIfInBounds i true).getD j false = (decide (j = i) || listed.getD j false) := fun j => by
          simp only [Array.getD_eq_getD_getElem?, Array.getElem?_setIfInBounds]
          by_cases e : i = j
          · subst e; simp [hlt]
          · simp [e, Ne.symm e]
        refine ih _ _ w' g' (by simpa using hs) ?_ ?_ ?_ (hf.trans f') (hkt.put i v)
        · have hf' : listed.toList[i]? = some false := by
            have := hil
            simp [Array.getD_eq_getD_getElem?, hlt] at this
            simp [hlt, this]
          have := count_set hf'
          rw [Array.toList_setIfInBounds]
          omega
        · intro k o ho hk e he hb
          have hk2 := hk
          simp only [hgi] at hk2 ⊢
          simp only [Bool.or_eq_true, decide_eq_true_eq] at hk2 ⊢
          rcases hk2 with rfl | hk2
          · exact .inr (hie o ho e he hb)
          · exact .inr (hcl k o ho hk2 e he hb)
        · have e : valK (look G) acts (fun j => (listed.setIfInBounds i true).getD j false) ops.size = ups (valK (look G) acts (fun j => listed.getD j false) ops.size) (actAt acts i).2 := funext fun n =>
            val_ins (look G) acts (fun j => listed.getD j false) _ i ops.size hiN n hgi fun j hj hd hw hwi => by
              by_cases hne : j = i
              · subst hne
                have hd' : listed.getD j false = true := hd
                rw [hil] at hd'; cases hd'
              · have := hord j hj hne (.inl (by unfold clash; rw [show hit ((actAt acts j).2.map (·.1)) ((actAt acts i).2.map (·.1)) = true from hit_of (n := n) hw hwi]; simp))
                have hd' : listed.getD j false = true := hd
                rw [hd'] at this
                simpa using this.symm
          rw [e]
          exact r'
/-- The actions of a region that panics at p: those that are not behind p. -/
inductive ChainP (P : Program) (nt : Nat) (ops : Array Oper) (p : Nat) (v : Value) : Nat → List (Nm × C) → Acts → List (Nm × C) → Prop
  | nil (i G) : ChainP P nt ops p v i G [] G
  | ok (i G rd wr acts G') (hp : i ≠ p) (h : StepOk P nt ops i (look G) rd wr) (t : ChainP P nt ops p v (i + 1) (wr ++ G) acts G') : ChainP P nt ops p v i G ((rd, wr) :: acts) G'
  | pan (i G rd acts G') (hp : i = p) (h : StepPan P nt ops i (look G) rd v) (t : ChainP P nt ops p v (i + 1) G acts G') : ChainP P nt ops p v i G ((rd, []) :: acts) G'
  | skip (i G acts G') (h : ((masks ops.toList []).getD i 0).testBit p = true) (t : ChainP P nt ops p v (i + 1) G acts G') : ChainP P nt ops p v i G (([], []) :: acts) G'
def StepP (P : Program) (nt : Nat) (ops : Array Oper) (p : Nat) (v : Value) (i : Nat) (Γ : Nm → C) (a : List Nm × List (Nm × C)) : Prop :=
  (i ≠ p ∧ StepOk P nt ops i Γ a.1 a.2) ∨ (i = p ∧ StepPan P nt ops i Γ a.1 v) ∨ ((masks ops.toList []).getD i 0).testBit p = true
theorem chainP_at {P nt p v} {ops : Array Oper} : ∀ {acts : Acts} {i G G'}, ChainP P nt ops p v i G acts G' → ∀ j, j < acts.length → StepP P nt ops p v (i + j) (tst (look G) acts j) (actAt acts j) := by
  intro acts
  induction acts with
  | nil => intro i G G' h j hj; simp at hj
  | cons a acts ih =>
    intro i G G' h j hj
    obtain ⟨rd, wr⟩ := a
    have hshift : ∀ j, tst (look (wr ++ G)) acts j = tst (look G) ((rd, wr) :: acts) (j + 1) := fun j => by
      induction j with
      | zero => simp [tst, actAt, look_append]
      | succ j ihj => rw [tst, ihj]; simp [tst, actAt]
    have hrest : ∀ {G2}, look G2 = look (wr ++ G) → ChainP P nt ops p v (i + 1) G2 acts G' → ∀ j, j < acts.length → StepP P nt ops p v (i + (j + 1)) (tst (look G) ((rd, wr) :: acts) (j + 1)) (actAt ((rd, wr) :: acts) (j + 1)) := fun {G2} e t j hj => by
      have := ih t j hj
      rw [e, hshift] at this
      rw [show i + (j + 1) = i + 1 + j by omega]
      exact this
    cases h with
    | ok _ _ _ _ _ _ hp h1 t =>
      cases j with
      | zero => exact .inl ⟨hp, h1⟩
      | succ j => exact hrest rfl t j (by simpa using hj)
    | pan _ _ _ _ _ hp h1 t =>
      cases j with
      | zero => exact .inr (.inl ⟨hp, h1⟩)
      | succ j => exact hrest (by simp) t j (by simpa using hj)
    | skip _ _ _ _ h1 t =>
      cases j with
      | zero => exact .inr (.inr h1)
      | succ j => exact hrest (by simp) t j (by simpa using hj)
structure RegP (P : Program) (nt : Nat) (ops : Array Oper) (p : Nat) (v : Value) (G : List (Nm × C)) (acts : Acts) (G' : List (Nm × C)) : Prop where
  len : acts.length = ops.size
  plt : p < ops.size
  chain : ChainP P nt ops p v 0 G acts G'
  ok : regOk ops.toList true G acts = true
theorem RegP.parts {p v} (h : RegP P nt ops p v G acts G') : noTemp G = true ∧ edgesOk 0 ops.toList = true ∧ mentOk (masks ops.toList []) 0 acts = true ∧ apartAll (masks ops.toList []) 0 acts = true := by
  have := h.ok
  simp only [regOk, Bool.and_eq_true, Bool.or_eq_true, Bool.not_eq_true'] at this
  obtain ⟨⟨⟨h1, h2⟩, h3⟩, h4⟩ := this
  exact ⟨h1, h2, h3, by simpa using h4⟩
theorem RegP.step {p v} (h : RegP P nt ops p v G acts G') {j : Nat} (hj : j < ops.size) : StepP P nt ops p v j (tst (look G) acts j) (actAt acts j) := by
  have := chainP_at h.chain j (by rw [h.len]; exact hj)
  simpa using this
theorem RegP.any {p : Nat} {v : Value} (h : RegP P nt ops p v G acts G') (ro : Option Nat) (ds : List Deferred) {w0 : World} {g0 : Gh} {a0 : Act} (hK : ∀ (a : Act) (w : World) (g : Gh), (∀ b, g.o b ≠ .other → b < w.heap.size) → Fr w0 w g0.o g.o → KeepsT ops a0 a → a.tmps.size = nt → a.defers = [] → Q (.panic [{ v := v, recovered := false }]) (shA ds a) w) :
    ∀ (fuel : Nat) (listed : Array Bool) (a : Act) (w : World) (g : Gh), listed.size = ops.size → listed.getD p false = false → listed.toList.count false = fuel → Closed ops (fun j => listed.getD j false) →
      Rel (valK (look G) acts (fun j => listed.getD j false) ops.size) nt a w g → Fr w0 w g0.o g.o → KeepsT ops a0 a → wpAnyIn (RF ro) 0 P .any ops Q fuel listed (shA ds a) w := by
  obtain ⟨h1, h2, h3, h4⟩ := h.parts
  have hpl : p < ops.size := h.plt
  intro fuel
  induction fuel with
  | zero =>
    intro listed a w g hs hnp hc hcl r hf hkt
    have hall : ∀ j, j < ops.size → listed.getD j false = true := fun j hj => by
      have := all_true hc (j := j) (by simpa [hs] using hj)
      simp at this
      simp [this]
    have := hall p hpl
    rw [hnp] at this; cases this
  | succ fuel ih =>
    intro listed a w g hs hnp hc hcl r hf hkt
    have hget : ∀ j, j < ops.size → listed.getD j true = listed.getD j false := fun j hj => by
      have hlt : j < listed.size := by omega
      simp [Array.getD_eq_getD_getElem?, hlt]
    have mem_ready : ∀ i, i ∈ Region.ready .any ops listed ↔ i < ops.size ∧ listed.getD i false = false ∧ ∀ o, ops[i]? = some o → ∀ e ∈ o.after.toList, Region.binds .any e = true → listed.getD e.on false = true := fun i => by
      unfold Region.ready
      rw [List.mem_filter, List.mem_range]
      constructor
      · rintro ⟨hi, hp⟩
        rw [hget i hi] at hp
        simp only [Bool.and_eq_true, Bool.not_eq_true'] at hp
        refine ⟨hi, hp.1, fun o ho e he hb => ?_⟩
        have := hp.2
        rw [ho] at this
        simp only [Option.map_some, Option.getD_some] at this
        have := Array.all_eq_true_iff_forall_mem.1 this e (by simpa using he)
        simpa [hb] using this
      · rintro ⟨hi, hl, he⟩
        refine ⟨hi, ?_⟩
        rw [hget i hi, hl, Array.getElem?_eq_getElem hi]
        simp only [Bool.not_false, Bool.true_and, Option.map_some, Option.getD_some]
        refine Array.all_eq_true_iff_forall_mem.2 fun e hm => ?_
        have := he ops[i] (Array.getElem?_eq_getElem hi) e (by simpa using hm)
        cases hb : Region.binds .any e with
        | false => simp
        | true => simp [this hb]
    refine ⟨fun hnil => ?_, fun i hi => ?_⟩
    · -- nothing is ready: all has been done
      have hall : ∀ j, j < ops.size → listed.getD j false = true := fun j => by
       induction j using Nat.strongRecOn with
       | _ j ihj =>
         intro hj
         cases hl : listed.getD j false with
         | true => rfl
         | false =>
           have : j ∈ Region.ready .any ops listed := (mem_ready j).2 ⟨hj, hl, fun o ho e he hb => by
             have hlt := edges_at h2 (k := j) (by simpa using ho) e he hb
             exact ihj e.on (by omega) (by omega)⟩
           rw [hnil] at this; cases this
      have := hall p hpl
      rw [hnp] at this; cases this
    · obtain ⟨hiN, hil, hie⟩ := (mem_ready i).1 hi
      have hpre : ∀ j, ((masks ops.toList []).getD i 0).testBit j = true → listed.getD j false = true := fun j hj => closed_mask hcl i ops[i] (Array.getElem?_eq_getElem hiN) (fun e he hb => hie _ (Array.getElem?_eq_getElem hiN) e he hb) j hj
      have hnot : ∀ j, j < ops.size → listed.getD j false = true → ((masks ops.toList []).getD j 0).testBit i = false := fun j hj hd => by
        cases hb : ((masks ops.toList []).getD j 0).testBit i with
        | false => rfl
        | true =>
          have := closed_mask hcl j ops[j] (Array.getElem?_eq_getElem hj) (fun e he hb' => hcl j _ (Array.getElem?_eq_getElem hj) hd e he hb') i hb
          have hil' : listed.getD i false = true := this
          rw [hil] at hil'; cases hil'
      -- who clashes with i has been done just if it stands ahead of i
      have hord : ∀ j, j < ops.size → j ≠ i → (clash (actAt acts j) (actAt acts i) = true ∨ clash (actAt acts i) (actAt acts j) = true) → listed.getD j false = decide (j < i) := fun j hj hne hcl' => by
        rcases Nat.lt_or_gt_of_ne hne with hlt | hlt
        · have := apart_at h4 (j := j) (k := i) hlt (by rw [h.len]; exact hiN)
          simp only [Nat.zero_add] at this
          rcases this with hb | hno
          · rw [hpre j hb]; simp [hlt]
          · exfalso
            rcases hcl' with hc1 | hc1
            · rw [hc1] at hno; cases hno
            · have hsym : clash (actAt acts j) (actAt acts i) = true := by
                unfold clash hit at hc1 ⊢
                simp only [Bool.or_eq_true, List.any_eq_true, decide_eq_true_eq] at hc1 ⊢
                rcases hc1 with (⟨x, hx, y, hy, e⟩ | ⟨x, hx, y, hy, e⟩) | ⟨x, hx, y, hy, e⟩
                · exact .inl (.inl ⟨y, hy, x, hx, e.symm⟩)
                · exact .inr ⟨y, hy, x, hx, e.symm⟩
                · exact .inl (.inr ⟨y, hy, x, hx, e.symm⟩)
              rw [hsym] at hno; cases hno
        · have := apart_at h4 (j := i) (k := j) hlt (by rw [h.len]; exact hj)
          simp only [Nat.zero_add] at this
          have hnd : ¬ j < i := by omega
          rcases this with hb | hno
          · cases hd : listed.getD j false with
            | false => simp [hnd]
            | true => have := hnot j hj hd; rw [this] at hb; cases hb
          · exfalso
            rcases hcl' with hc1 | hc1
            · have hsym : clash (actAt acts i) (actAt acts j) = true := by
                unfold clash hit at hc1 ⊢
                simp only [Bool.or_eq_true, List.any_eq_true, decide_eq_true_eq] at hc1 ⊢
                rcases hc1 with (⟨x, hx, y, hy, e⟩ | ⟨x, hx, y, hy, e⟩) | ⟨x, hx, y, hy, e⟩
                · exact .inl (.inl ⟨y, hy, x, hx, e.symm⟩)
                · exact .inr ⟨y, hy, x, hx, e.symm⟩
                · exact .inl (.inr ⟨y, hy, x, hx, e.symm⟩)
              rw [hsym] at hno; cases hno
            · rw [hc1] at hno; cases hno
      have hA : ∀ n ∈ (actAt acts i).1, valK (look G) acts (fun j => listed.getD j false) ops.size n = tst (look G) acts i n := fun n hn => by
        refine val_text (look G) acts _ i ops.size n (by omega) fun j hj hw => ?_
        by_cases e : j = i
        · subst e; rw [hil]; simp
        · refine hord j hj e (.inl ?_)
          unfold clash
          rw [show hit ((actAt acts j).2.map (·.1)) (actAt acts i).1 = true from hit_of (n := n) hw hn]; simp
      have hB : ∀ k, isTh i k → Unm (valK (look G) acts (fun j => listed.getD j false) ops.size) k := by
        refine val_unm (ms := masks ops.toList []) (by rw [h.len]; omega) h1 h3 fun j hj hd => ⟨fun e => ?_, hnot j hj hd⟩
        subst e
        have hd' : listed.getD j false = true := hd
        rw [hil] at hd'; cases hd'
      rcases h.step hiN with ⟨hip, hst⟩ | ⟨hip, hst⟩ | hst
      rotate_left
      · refine hst ro ds _ a w g Q _ hA hB r fun w' g' t' f' => ?_
        exact hK a w' g' t' (hf.trans f') hkt r.size r.df
      · have := hpre p hst
        rw [hnp] at this; cases this
      · refine hst ro ds _ a w g Q _ hA hB r fun v w' g' r' f' => ?_
        have hlt : i < listed.size := by omega
        have hgi : ∀ j, (listed.setIfInBounds i true).getD j false = (decide (j = i) || listed.getD j false) := fun j => by
          simp only [Array.getD_eq_getD_getElem?, Array.getElem?_setIfInBounds]
          by_cases e : i = j
          · subst e; simp [hlt]
          · simp [e, Ne.symm e]
        refine ih _ _ w' g' (by simpa using hs) (by rw [hgi, hnp]; simp; exact fun e => hip e.symm) ?_ ?_ ?_ (hf.trans f') (hkt.put i v)
        · have hf' : listed.toList[i]? = some false := by
            have := hil
            simp [Array.getD_eq_getD_getElem?, hlt] at this
            simp [hlt, this]
          have := count_set hf'
          rw [Array.toList_setIfInBounds]
          omega
        · intro k o ho hk e he hb
          have hk2 := hk
          simp only [hgi] at hk2 ⊢
          simp only [Bool.or_eq_true, decide_eq_true_eq] at hk2 ⊢
          rcases hk2 with rfl | hk2
          · exact .inr (hie o ho e he hb)
          · exact .inr (hcl k o ho hk2 e he hb)
        · have e : valK (look G) acts (fun j => (listed.setIfInBounds i true).getD j false) ops.size = ups (valK (look G) acts (fun j => listed.getD j false) ops.size) (actAt acts i).2 := funext fun n =>
            val_ins (look G) acts (fun j => listed.getD j false) _ i ops.size hiN n hgi fun j hj hd hw hwi => by
              by_cases hne : j = i
              · subst hne
                have hd' : listed.getD j false = true := hd
                rw [hil] at hd'; cases hd'
              · have := hord j hj hne (.inl (by unfold clash; rw [show hit ((actAt acts j).2.map (·.1)) ((actAt acts i).2.map (·.1)) = true from hit_of (n := n) hw hwi]; simp))
                have hd' : listed.getD j false = true := hd
                rw [hd'] at this
                simpa using this.symm
          rw [e]
          exact r'
/-- A region in the text's order that panics. -/
theorem chain_pan {draw : Bool} (ro : Option Nat) (ds : List Deferred) {v : Value} {rd : List Nm} (hch : Chain P nt ops 0 G acts G') (hok : regOk ops.toList false G acts = true) (hlt : acts.length < ops.size) (hp : StepPan P nt ops acts.length (look G') rd v)
    {w0 : World} {g0 : Gh} {a0 : Act} (hK : ∀ (a : Act) (w : World) (g : Gh), (∀ b, g.o b ≠ .other → b < w.heap.size) → Fr w0 w g0.o g.o → KeepsT ops a0 a → a.tmps.size = nt → a.defers = [] → Q (.panic [{ v := v, recovered := false }]) (shA ds a) w) :
    ∀ (m k : Nat) (a : Act) (w : World) (g : Gh), k + m = ops.size → k ≤ acts.length → Rel (tst (look G) acts k) nt a w g → Fr w0 w g0.o g.o → KeepsT ops a0 a → wpOpsIn (RF ro) 0 P ops Q (List.range' k m) (shA ds a) w := by
  simp only [regOk, Bool.and_eq_true] at hok
  obtain ⟨⟨⟨h1, h2⟩, h3⟩, _⟩ := hok
  have hun : ∀ k, k ≤ acts.length → ∀ j, isTh k j → Unm (tst (look G) acts k) j := fun k hk => by
    rw [tst_val]
    refine val_unm (ms := masks ops.toList []) (by omega) h1 h3 fun j hj _ => ⟨by omega, ?_⟩
    cases hb : ((masks ops.toList []).getD j 0).testBit k with
    | false => rfl
    | true => have := mask_lt h2 (by omega) hb; omega
  intro m
  induction m with
  | zero => intro k a w g hk hle; omega
  | succ m ih =>
    intro k a w g hk hle r hf hkt
    rw [List.range'_succ, wpOpsIn_cons]
    by_cases e : k = acts.length
    · subst e
      have := (chain_at hch).2
      rw [← this] at r
      refine hp ro ds _ a w g Q _ (fun n hn => rfl) ?_ r fun w' g' t' f' => hK a w' g' t' (hf.trans f') hkt r.size r.df
      rw [this]; exact hun _ (Nat.le_refl _)
    · have hst := (chain_at hch).1 k (by omega)
      rw [Nat.zero_add] at hst
      refine hst ro ds _ a w g Q _ (fun n hn => rfl) (hun k hle) r fun v w' g' r' f' => ?_
      exact ih (k + 1) _ w' g' (by omega) (by omega) r' (hf.trans f') (hkt.put k v)
theorem Rel.drew {Γ a w g} (r : Rel Γ nt a w g) : Rel Γ nt a { w with drawn := w.drawn + 1 } g :=
  r.ext ⟨Nat.le_refl _, fun _ _ _ => ⟨rfl, rfl⟩, fun b hb => r.tags b hb, fun _ _ => rfl, fun _ _ => rfl⟩
/-- A region, by its actions in the text's order. -/
theorem Reg.wp {draw : Bool} {id : Nat} (h : Reg P nt ops draw G acts G') (hm : P.follows .mixedOrders = true) (ro : Option Nat) (ds : List Deferred) {a : Act} {w : World} {g : Gh} (r : Rel (look G) nt a w g)
    (hK : ∀ a' w' g', Rel (look G') nt a' w' g' → Fr w w' g.o g'.o → KeepsT ops a a' → Q .normal (shA ds a') w') : (Code.region id ops draw).wpIn (RF ro) 0 P Q (shA ds a) w := by
  cases draw with
  | false =>
    refine wpIn_region ?_
    rw [List.range_eq_range']
    exact h.plain ro ds (a0 := a) hK ops.size 0 a w g (by omega) r (Fr.refl _ _) (KeepsT.refl _ _)
  | true =>
    refine wpIn_region_any hm ?_
    refine h.any ro ds (w0 := w) (g0 := g) (a0 := a) hK ops.size _ a _ g (by simp) (by simp) ?_ ?_ ⟨rfl, rfl, rfl, Nat.le_refl _, fun _ _ _ => ⟨rfl, rfl⟩, fun b _ ⟨k, hk⟩ => ⟨by rw [hk]; rfl, Shp.of_eq rfl⟩⟩ (KeepsT.refl _ _)
    · intro k o ho hk
      simp [Array.getD_eq_getD_getElem?, Array.getElem?_replicate] at hk
      split at hk <;> simp at hk
    · have e : valK (look G) acts (fun j => (Array.replicate ops.size false).getD j false) ops.size = look G := funext fun n => by
        rw [val_skip (look G) acts _ 0 ops.size n (by omega) fun j _ hj _ => by simp [Array.getD_eq_getD_getElem?, hj]]
        rfl
      rw [e]
      exact r.drew
end
/-- What stands behind an operation that panics, but need not wait for it. -/
def vRest (T : Tab) (O : Orc) (nt : Nat) (ops : List Oper) (p : Nat) : Nat → List Oper → List (Nm × C) → Acts → (Acts → Prop) → Prop
  | _, [], _, log, K => K log
  | i, o :: r, G, log, K => match ((masks ops []).getD i 0).testBit p with
    | true => vRest T O nt ops p (i + 1) r G (log ++ [([], [])]) K
    | false => vStep T O nt ops i o (look G) fun rd wr => match panV wr with
      | some _ => False
      | none => vRest T O nt ops p (i + 1) r (wr ++ G) (log ++ [(rd, wr)]) K
theorem vRest_ok {P T O nt p v} {ops : Array Oper} (hT : Tok P T) (hO : OrcOk P O) : ∀ {r : List Oper} {i G log K}, p < i → (∀ j, r[j]? = ops[i + j]?) → vRest T O nt ops.toList p i r G log K → ∃ acts G', acts.length = r.length ∧ ChainP P nt ops p v i G acts G' ∧ K (log ++ acts) := by
  intro r
  induction r with
  | nil => intro i G log K hp _ h; exact ⟨[], G, rfl, .nil _ _, by simpa [vRest] using h⟩
  | cons o r ih =>
    intro i G log K hp hr h
    have hr' : ∀ j, r[j]? = ops[i + 1 + j]? := fun j => by have := hr (j + 1); simpa [Nat.add_assoc, Nat.add_comm 1 j] using this
    unfold vRest at h
    split at h
    · rename_i hb
      obtain ⟨acts, G', e1, e2, e3⟩ := ih (i := i + 1) (by omega) hr' h
      exact ⟨([], []) :: acts, G', by simp [e1], .skip _ _ _ _ hb e2, by simpa using e3⟩
    · obtain ⟨rd, wr, h1, h2⟩ := vStep_ok (P := P) hT hO (by have := hr 0; simpa using this.symm) h
      unfold StepX at h1
      split at h1
      · rename_i v hv; rw [hv] at h2; exact h2.elim
      · rename_i hv
        rw [hv] at h2
        obtain ⟨acts, G', e1, e2, e3⟩ := ih (i := i + 1) (by omega) hr' h2
        exact ⟨(rd, wr) :: acts, G', by simp [e1], .ok _ _ _ _ _ _ (by omega) h1 e2, by simpa using e3⟩
theorem chainP_app {P nt p v} {ops : Array Oper} {rd : List Nm} : ∀ {acts i G G1 acts2 G2}, Chain P nt ops i G acts G1 → i + acts.length = p → StepPan P nt ops p (look G1) rd v → ChainP P nt ops p v (p + 1) G1 acts2 G2 → ChainP P nt ops p v i G (acts ++ (rd, []) :: acts2) G2 := by
  intro acts
  induction acts with
  | nil => intro i G G1 acts2 G2 h1 h2 h3 h4; cases h1; simp at h2; subst h2; exact .pan _ _ _ _ _ rfl h3 h4
  | cons a acts ih =>
    intro i G G1 acts2 G2 h1 h2 h3 h4
    cases h1 with
    | cons _ _ _ _ _ _ hs t => exact .ok _ _ _ _ _ _ (by simp at h2; omega) hs (ih t (by simp at h2; omega) h3 h4)
/-- A region that panics. -/
def panRegion (T : Tab) (O : Orc) (nt : Nat) (ops : List Oper) (draw : Bool) (G0 G : List (Nm × C)) (acts : Acts) (q : Prop) : Prop :=
  match draw with
  | false => regOk ops false G0 acts = true ∧ q
  | true => vRest T O nt ops (acts.length - 1) acts.length (ops.drop acts.length) G acts fun acts' => regOk ops true G0 acts' = true ∧ q
theorem ment_app {ms : List Nat} {a : Acts} : ∀ {l : Acts} {j : Nat}, mentOk ms j (l ++ a) = true → mentOk ms j l = true
  | [], j, _ => rfl
  | (rd, wr) :: l, j, h => by
    simp only [List.cons_append, mentOk, Bool.and_eq_true] at h ⊢
    exact ⟨h.1, ment_app h.2⟩
theorem panRegion_ok {P : Program} {T : Tab} {O : Orc} {nt id : Nat} {ops : Array Oper} {draw : Bool} {G G' : List (Nm × C)} {acts : Acts} {rd : List Nm} {v : Value} {q : Prop} {Q : Exit → Act → World → Prop} (hT : Tok P T) (hO : OrcOk P O) (hm : P.follows .mixedOrders = true) (hlt : acts.length < ops.size) (hch : Chain P nt ops 0 G acts G') (hp : StepPan P nt ops acts.length (look G') rd v)
    (h : panRegion T O nt ops.toList draw G G' (acts ++ [(rd, [])]) q) (ro : Option Nat) (ds : List Deferred) {a : Act} {w : World} {g : Gh} (r : Rel (look G) nt a w g)
    (hK : q → ∀ (a' : Act) (w' : World) (g' : Gh), (∀ b, g'.o b ≠ .other → b < w'.heap.size) → Fr w w' g.o g'.o → KeepsT ops a a' → a'.tmps.size = nt → a'.defers = [] → Q (.panic [{ v := v, recovered := false }]) (shA ds a') w') : (Code.region id ops draw).wpIn (RF ro) 0 P Q (shA ds a) w := by
  cases draw with
  | false =>
    obtain ⟨hok, hq⟩ := h
    refine wpIn_region ?_
    rw [List.range_eq_range']
    refine chain_pan (draw := false) ro ds hch ?_ hlt hp (a0 := a) (hK hq) ops.size 0 a w g (by omega) (by omega) r (Fr.refl _ _) (KeepsT.refl _ _)
    simp only [regOk, Bool.and_eq_true] at hok ⊢
    exact ⟨⟨hok.1.1, ment_app hok.1.2⟩, rfl⟩
  | true =>
    have h' : vRest T O nt ops.toList acts.length (acts.length + 1) (ops.toList.drop (acts.length + 1)) G' (acts ++ [(rd, [])]) fun acts' => regOk ops.toList true G acts' = true ∧ q := by
      simpa [panRegion] using h
    obtain ⟨acts2, G2, e1, e2, e3, hq⟩ := vRest_ok (P := P) (v := v) hT hO (by omega) (fun j => by simp [List.getElem?_drop]) h'
    have reg : RegP P nt ops acts.length v G (acts ++ (rd, []) :: acts2) G2 := ⟨by simp only [List.length_append, List.length_cons, e1, List.length_drop, Array.length_toList]; omega, hlt, chainP_app hch (by omega) hp e2, by simpa using e3⟩
    refine wpIn_region_any hm ?_
    refine reg.any ro ds (w0 := w) (g0 := g) (a0 := a) (hK hq) ops.size _ a _ g (by simp) ?_ (by simp) ?_ ?_ ⟨rfl, rfl, rfl, Nat.le_refl _, fun _ _ _ => ⟨rfl, rfl⟩, fun b _ ⟨k, hk⟩ => ⟨by rw [hk]; rfl, Shp.of_eq rfl⟩⟩ (KeepsT.refl _ _)
    · simp [Array.getD_eq_getD_getElem?, Array.getElem?_replicate, hlt]
    · intro k o ho hk
      simp [Array.getD_eq_getD_getElem?, Array.getElem?_replicate] at hk
      split at hk <;> simp at hk
    · have e : valK (look G) (acts ++ (rd, []) :: acts2) (fun j => (Array.replicate ops.size false).getD j false) ops.size = look G := funext fun n => by
        rw [val_skip (look G) _ _ 0 ops.size n (by omega) fun j _ hj _ => by simp [Array.getD_eq_getD_getElem?, hj]]
        rfl
      rw [e]
      exact r.drew
end Go.Proofs.YtdpflafjfkooeaaGreatDoorG
