/- YtdpflafjfkooeaaGreatDoorZ12: a part of the proof, joined of its texts. -/
import Derived.Test.YtdpflafjfkooeaaGreatDoorZ11
/- G15: symbolic execution: lemmas for simp. -/
namespace Go.Proofs.YtdpflafjfkooeaaGreatDoorG
open Go Go.RowKit
set_option linter.unusedVariables false
set_option linter.unusedSimpArgs false
/-- What comes behind an operation. -/
def Kt (T : Tab) (O : Orc) (nt : Nat) (ops : List Oper) (i : Nat) (r : List Oper) (G : List (Nm × C)) (log : Acts) (K : Option Value → List (Nm × C) → Acts → Prop) (rd : List Nm) (wr : List (Nm × C)) : Prop := match panV wr with
  | some v => K (some v) G (log ++ [(rd, [])])
  | none => vOps T O nt ops i r (wr ++ G) (log ++ [(rd, wr)]) K
theorem vOps_cons' {T O nt ops i o r G log K} (h : vStep T O nt ops i o (look G) (Kt T O nt ops (i + 1) r G log K)) : vOps T O nt ops i (o :: r) G log K := h
theorem vOps_nil' {T O nt ops i G log K} (h : K none G log) : vOps T O nt ops i [] G log K := h
theorem Kt_i {T O nt ops i r G log K rd wr} (h0 : panV wr = none) (h : vOps T O nt ops i r (wr ++ G) (log ++ [(rd, wr)]) K) : Kt T O nt ops i r G log K rd wr := by unfold Kt; rw [h0]; exact h
theorem Kt_p {T O nt ops i r G log K rd v} (h : K (some v) G (log ++ [(rd, [])])) : Kt T O nt ops i r G log K rd (pan v) := h
/-- Behind a region. -/
def Kr (T : Tab) (O : Orc) (nt : Nat) (ops : List Oper) (draw : Bool) (G : List (Nm × C)) (vars : List Nat) (Q : GEx → List (Nm × C) → Prop) (pv : Option Value) (G' : List (Nm × C)) (acts : Acts) : Prop := match pv with
  | none => regOk ops draw G acts = true ∧ Q .normal (plain vars G')
  | some v => panRegion T O nt ops draw G G' acts (Q (.panic v) [])
/-- A region's operations, from a state on. -/
def Kv (T : Tab) (O : Orc) (nt : Nat) (ops : List Oper) (draw : Bool) (vars : List Nat) (Q : GEx → List (Nm × C) → Prop) (G : List (Nm × C)) : Prop := vOps T O nt ops 0 ops G [] (Kr T O nt ops draw G vars Q)
theorem Kv_i {T O nt ops draw vars Q G} (h : vOps T O nt ops 0 ops G [] (Kr T O nt ops draw G vars Q)) : Kv T O nt ops draw vars Q G := h
theorem vRegion_i {T O nt vars id} {ops : Array Oper} {draw G Q} (hs : ((vars id).all fun i => decide (i < 2000000)) = true) (h : vOps T O nt ops.toList 0 ops.toList G [] (Kr T O nt ops.toList draw G (vars id) Q)) : vCode T O nt vars (.region id ops draw) G Q := vSpl_none hs h
/-- What stands behind an operation that panics. -/
def KtR (T : Tab) (O : Orc) (nt : Nat) (ops : List Oper) (p i : Nat) (r : List Oper) (G : List (Nm × C)) (log : Acts) (K : Acts → Prop) (rd : List Nm) (wr : List (Nm × C)) : Prop := match panV wr with
  | some _ => False
  | none => vRest T O nt ops p i r (wr ++ G) (log ++ [(rd, wr)]) K
def KrR (ops : List Oper) (G0 : List (Nm × C)) (q : Prop) (acts : Acts) : Prop := regOk ops true G0 acts = true ∧ q
theorem KrR_i {ops G0 q acts} (h1 : regOk ops true G0 acts = true) (h2 : q) : KrR ops G0 q acts := ⟨h1, h2⟩
theorem vR_nil {T O nt ops p i G log K} (h : K log) : vRest T O nt ops p i [] G log K := h
theorem vR_skip {T O nt ops p i o r G log K} (hb : ((masks ops []).getD i 0).testBit p = true) (h : vRest T O nt ops p (i + 1) r G (log ++ [([], [])]) K) : vRest T O nt ops p i (o :: r) G log K := by unfold vRest; rw [hb]; exact h
theorem vR_cons {T O nt ops p i o r G log K} (hb : ((masks ops []).getD i 0).testBit p = false) (h : vStep T O nt ops i o (look G) (KtR T O nt ops p (i + 1) r G log K)) : vRest T O nt ops p i (o :: r) G log K := by unfold vRest; rw [hb]; exact h
theorem KtR_i {T O nt ops p i r G log K rd wr} (h0 : panV wr = none) (h : vRest T O nt ops p i r (wr ++ G) (log ++ [(rd, wr)]) K) : KtR T O nt ops p i r G log K rd wr := by unfold KtR; rw [h0]; exact h
theorem Kr_f {T O nt ops G vars Q v G' acts} (h1 : regOk ops false G acts = true) (h2 : Q (.panic v) []) : Kr T O nt ops false G vars Q (some v) G' acts := ⟨h1, h2⟩
theorem Kr_t {T O nt ops G vars Q v G' acts} (h : vRest T O nt ops (acts.length - 1) acts.length (ops.drop acts.length) G' acts (KrR ops G (Q (.panic v) []))) : Kr T O nt ops true G vars Q (some v) G' acts := h
theorem imp_i {p q : Prop} (h : p → q) : impS p q := h
theorem Kr_i {T O nt ops draw G vars Q G' acts} (h1 : regOk ops draw G acts = true) (h2 : Q .normal (plain vars G')) : Kr T O nt ops draw G vars Q none G' acts := ⟨h1, h2⟩
def Ks (T : Tab) (O : Orc) (nt : Nat) (vars : Nat → List Nat) (y : Code) (Q : GEx → List (Nm × C) → Prop) : GEx → List (Nm × C) → Prop := GEx.seq (fun G' => vCode T O nt vars y G' Q) Q
theorem vSeq_i {T O nt vars x y G Q} (h : vCode T O nt vars x G (Ks T O nt vars y Q)) : vCode T O nt vars (.seq x y) G Q := h
theorem Ks_n {T O nt vars y Q G} (h : vCode T O nt vars y G Q) : Ks T O nt vars y Q .normal G := h
theorem Ks_e {T O nt vars y Q G id} (h : Q (.exit id) G) : Ks T O nt vars y Q (.exit id) G := h
theorem Ks_r {T O nt vars y Q G} (h : Q .ret G) : Ks T O nt vars y Q .ret G := h
theorem Ks_p {T O nt vars y Q G v} (h : Q (.panic v) G) : Ks T O nt vars y Q (.panic v) G := h
theorem blk_p {id Q G v} (h : Q (.panic v) G) : GEx.blk id Q (.panic v) G := h
theorem Ks_g {T O nt vars y Q G l} (h : Q (.goto l) G) : Ks T O nt vars y Q (.goto l) G := h
theorem blk_g {id Q G l} (h : Q (.goto l) G) : GEx.blk id Q (.goto l) G := h
theorem vGoto_i {T O nt vars l G Q} (h : Q (.goto l) G) : vCode T O nt vars (.goto l) G Q := h
theorem vLabel_i {T O nt vars l G Q} (h : Q .normal G) : vCode T O nt vars (.label l) G Q := h
theorem jmp_g {l J Q G} (h : J G) : GEx.jmp l J Q (.goto l) G := ⟨rfl, h⟩
theorem jmp_n {l J Q G} (h : Q .normal G) : GEx.jmp l J Q .normal G := h
theorem jmp_r {l J Q G} (h : Q .ret G) : GEx.jmp l J Q .ret G := h
theorem nog_n {Q G} (h : Q .normal G) : GEx.nog Q .normal G := h
theorem nog_r {Q G} (h : Q .ret G) : GEx.nog Q .ret G := h
theorem vRet_i {T O nt vars G Q} (h : Q .ret G) : vCode T O nt vars .ret G Q := h
theorem vSkip_i {T O nt vars G Q} (h : Q .normal G) : vCode T O nt vars .skip G Q := h
theorem vExit_i {T O nt vars G Q id} (h : Q (.exit id) G) : vCode T O nt vars (.exit id) G Q := h
theorem vBlock_i {T O nt vars G Q id x} (h : vCode T O nt vars x G (GEx.blk id Q)) : vCode T O nt vars (.block id x) G Q := h
theorem blk_n {id Q G} (h : Q .normal G) : GEx.blk id Q .normal G := h
theorem blk_r {id Q G} (h : Q .ret G) : GEx.blk id Q .ret G := h
theorem blk_e {id Q G} (h : Q .normal G) : GEx.blk id Q (.exit id) G := by simp only [GEx.blk, if_true]; exact h
theorem blk_o {id id' Q G} (hne : id' ≠ id) (h : Q (.exit id') G) : GEx.blk id Q (.exit id') G := by simp only [GEx.blk, if_neg hne]; exact h
theorem vCond_t {T O nt vars c x y G Q} (hc : opX (look G) c = .p (.one (.v (.raw (.bool true))))) (h : vCode T O nt vars x G Q) : vCode T O nt vars (.cond c x y) G Q := by simp only [vCode, hc]; exact h
theorem vCond_f {T O nt vars c x y G Q} (hc : opX (look G) c = .p (.one (.v (.raw (.bool false))))) (h : vCode T O nt vars y G Q) : vCode T O nt vars (.cond c x y) G Q := by simp only [vCode, hc]; exact h
/-- Small laws in one. -/
theorem SB : (∀ p : Prop, (True ∨ p) = True) ∧ (∀ p : Prop, (p ∨ True) = True) ∧ (∀ p : Prop, (True ∧ p) = p) ∧ (∀ p : Prop, (p ∧ True) = p) ∧ (∀ h : Decidable True, @decide True h = true) ∧ (∀ h : Decidable False, @decide False h = false) ∧ (∀ b : Bool, (b && b) = b) ∧ (∀ b : Bool, (b || b) = b) ∧ (¬False) = True ∧ (¬True) = False :=
  ⟨true_or, or_true, true_and, and_true, fun h => @decide_true h, fun h => @decide_false h, Bool.and_self, Bool.or_self, not_false_eq_true, not_true_eq_false⟩
/-- What a test comes to. -/
def CondP (z : X) (A B : Prop) : Prop := (z = .p (.one (.v (.raw (.bool true)))) ∧ A) ∨ (z = .p (.one (.v (.raw (.bool false)))) ∧ B)
theorem cp_t {A B : Prop} (h : A) : CondP (.p (.one (.v (.raw (.bool true))))) A B := .inl ⟨rfl, h⟩
theorem cp_f {A B : Prop} (h : B) : CondP (.p (.one (.v (.raw (.bool false))))) A B := .inr ⟨rfl, h⟩
theorem vCond_x {T O nt vars c x y G Q z} (hc : opX (look G) c = z) (h : CondP z (vCode T O nt vars x G Q) (vCode T O nt vars y G Q)) : vCode T O nt vars (.cond c x y) G Q := by
  rcases h with ⟨rfl, h⟩ | ⟨rfl, h⟩
  · exact vCond_t hc h
  · exact vCond_f hc h
/-- Behind a round of a loop. -/
def Kl {σ : Type} (S : σ → List (Nm × C)) (p : σ → Prop) (m : σ → Nat) (n : Nat) (Q : GEx → List (Nm × C) → Prop) : GEx → List (Nm × C) → Prop := GEx.seq (fun G'' => ∃ k, k < n ∧ ∃ s', p s' ∧ G'' = S s' ∧ m s' = k) Q
theorem Kl_n {σ : Type} {S : σ → List (Nm × C)} {p : σ → Prop} {m : σ → Nat} {n : Nat} {Q G} (h : ∃ s', p s' ∧ m s' < n ∧ G = S s') : Kl S p m n Q .normal G := by
  obtain ⟨s, h1, h2, h3⟩ := h
  exact ⟨m s, h2, s, h1, h3, rfl⟩
theorem Kl_e {σ : Type} {S : σ → List (Nm × C)} {p : σ → Prop} {m : σ → Nat} {n : Nat} {Q G id} (h : Q (.exit id) G) : Kl S p m n Q (.exit id) G := h
theorem Kl_r {σ : Type} {S : σ → List (Nm × C)} {p : σ → Prop} {m : σ → Nat} {n : Nat} {Q G} (h : Q .ret G) : Kl S p m n Q .ret G := h
theorem Kl_p {σ : Type} {S : σ → List (Nm × C)} {p : σ → Prop} {m : σ → Nat} {n : Nat} {Q G v} (h : Q (.panic v) G) : Kl S p m n Q (.panic v) G := h
theorem Kl_g {σ : Type} {S : σ → List (Nm × C)} {p : σ → Prop} {m : σ → Nat} {n : Nat} {Q G l} (h : Q (.goto l) G) : Kl S p m n Q (.goto l) G := h
/-- A loop, by what it keeps in mind. -/
theorem vLoop_s {T O nt vars x G Q} {σ : Type} (S : σ → List (Nm × C)) (p : σ → Prop) (m : σ → Nat) (s0 : σ) (h0 : p s0) (hG : G = S s0) (hr : ∀ s, p s → vCode T O nt vars x (S s) (Kl S p m (m s) Q)) : vCode T O nt vars (.loop x) G Q := by
  refine ⟨fun n G => ∃ s, p s ∧ G = S s ∧ m s = n, ⟨_, s0, h0, hG, rfl⟩, ?_⟩
  rintro n G' ⟨s, hs, rfl, rfl⟩
  exact hr s hs
/-- A round of a range over a function: the assignments; the body. -/
def Kx (T : Tab) (O : Orc) (nt : Nat) (vars : Nat → List Nat) (y : Code) (K : GEx → List (Nm × C) → Prop) (e : GEx) (G : List (Nm × C)) : Prop := e = .normal ∧ vCode T O nt vars y G K
theorem Kx_n {T O nt vars y K G} (h : vCode T O nt vars y G K) : Kx T O nt vars y K .normal G := ⟨rfl, h⟩
def Ky {σ : Type} (S : σ → List (Nm × C)) (p : σ → Prop) (W : List Nat) (Q : GEx → List (Nm × C) → Prop) (e : GEx) (G : List (Nm × C)) : Prop :=
  match e with
  | .normal => ∃ s, p s ∧ dropT W G = S s
  | .exit id => Q (.exit id) (dropT W G)
  | .ret => Q .ret (dropT W G)
  | .panic _ => False
  | .goto _ => False
theorem Ky_n {σ : Type} {S : σ → List (Nm × C)} {p : σ → Prop} {W Q G} (h : ∃ s, p s ∧ dropT W G = S s) : Ky S p W Q .normal G := h
theorem Ky_r {σ : Type} {S : σ → List (Nm × C)} {p : σ → Prop} {W Q G} (h : Q .ret (dropT W G)) : Ky S p W Q .ret G := h
/-- A range over a function, by what it keeps in mind. -/
theorem vRange_s {T O nt vars gx ps x y G Q gf caps} {σ : Type} (hgx : opX (look G) gx = .p (.one (.v (.clo gf caps)))) (els : List (List X)) (hit : ∀ K : List (List X) → Prop, K els → O.it gf caps K) (hlen : ∀ xs ∈ els, xs.length = ps.size) (hps : ∀ p ∈ ps.toList, p < nt) (W : List Nat) (hW : ps.toList ++ (wrs x ++ wrs y) = W)
    (S : σ → List (Nm × C)) (p : Nat → σ → Prop) (s0 : σ) (D : List Nat) (h0 : p 0 s0) (hG : dropT D G = S s0)
    (hr : ∀ k s xs, els[k]? = some xs → p k s → vCode T O nt vars x (setPs ps.toList xs (S s)) (Kx T O nt vars y (Ky S (p (k + 1)) W Q))) (he : ∀ s, p els.length s → Q .normal (S s)) : vCode T O nt vars (.rangeFunc gx ps x y) G Q := by
  simp only [vCode, hgx]
  refine hit _ ⟨hlen, hps, D, fun k G => ∃ s, p k s ∧ G = S s, ⟨s0, h0, hG⟩, ?_, ?_⟩
  · rintro k xs G1 hk ⟨s, hs, rfl⟩
    rw [hW]
    exact hr k s xs hk hs
  · rintro G1 ⟨s, hs, rfl⟩
    exact he s hs
theorem vB_i {p : Prop} {K : Bool → Prop} (h1 : p → K true) (h2 : ¬ p → K false) : vB p K := ⟨h1, h2⟩
/-! ### what an operation comes to: for simp -/
set_option linter.defProp false
theorem look_nil (n : Nm) : look [] n = .none := rfl
theorem look_cons (m c r n) : look ((m, c) :: r) n = if n = m then c else look r n := rfl
theorem cnt1 (xs : List SV) : cnt 1 xs = xs.length := by simp [cnt]
def E1 := And.intro @vStep.eq_1 <| And.intro @vOp.eq_1 <| And.intro @vMoveT.eq_1 <| And.intro @vPick.eq_1 <| And.intro @vAlloc.eq_1 <| And.intro @vBox.eq_1 <| And.intro @vBuild.eq_1 <| And.intro @vBuildSlice.eq_1 <| And.intro @vLoad.eq_1 <| And.intro @vStore.eq_1 <| And.intro @vNilCheck.eq_1 <| And.intro @vBin.eq_1 <| And.intro @vUn.eq_1 <| And.intro @vUn.eq_2 <| And.intro @vUn.eq_3 <| And.intro @unNot.eq_1 <| And.intro @unNot.eq_2 <| And.intro @unNeg.eq_1 <| And.intro @unNeg.eq_2 <| And.intro @vConv.eq_1 <| And.intro @vMake.eq_1 <| And.intro @vSliceR.eq_1 <| And.intro @vSliceV.eq_1 <| And.intro @vFieldAddr.eq_1 <| And.intro @vField.eq_1 <| And.intro @vIndexAddr.eq_1 <| And.intro @vIndex.eq_1 <| And.intro @vExtract.eq_1 <| And.intro @vCallB.eq_1 <| And.intro @vCallB.eq_2 <| And.intro @vCallB.eq_3 <| And.intro @vCallX.eq_1 <| And.intro @vSliceZ.eq_1 <| And.intro @vFunc.eq_1 <| And.intro @vFuncX.eq_1 <| And.intro @vFuncX.eq_2 <| And.intro @vFuncX.eq_3 <| And.intro @vFuncX.eq_4 <| And.intro @vClo.eq_1 <| And.intro @vClo.eq_2 <| And.intro @vLen.eq_1 <| And.intro @vAppend.eq_1 <| @vCall.eq_1
def E2 := And.intro @vCallG.eq_1 <| And.intro @dOk.eq_1 <| And.intro @vInt.eq_1 <| And.intro @vInt.eq_2 <| And.intro @vInt.eq_3 <| And.intro @vInt.eq_4 <| And.intro @vInt.eq_5 <| And.intro @vInt.eq_6 <| And.intro @vInt.eq_7 <| And.intro @vInt.eq_8 <| And.intro @vInt.eq_9 <| And.intro @vInt.eq_10 <| And.intro @vInt.eq_11 <| And.intro @vInt.eq_12 <| And.intro @vInt.eq_13 <| And.intro @vInt.eq_14 <| And.intro @vInt.eq_15 <| And.intro @vInt.eq_16 <| And.intro @vInt.eq_17 <| And.intro @vStr.eq_1 <| And.intro @vStr.eq_2 <| And.intro @vStr.eq_3 <| And.intro @vStr.eq_4 <| And.intro @vStr.eq_5 <| And.intro @opR.eq_1 <| And.intro @opR.eq_2 <| And.intro @opX.eq_1 <| And.intro @opX.eq_2 <| And.intro @opX.eq_3 <| And.intro @opX.eq_4 <| And.intro @opX.eq_5 <| And.intro @putT.eq_1 <| And.intro @putT.eq_2 <| And.intro @nlAs.eq_1 <| And.intro @nlAs.eq_2 <| And.intro @ptrTo.eq_1 <| And.intro @ptrTo.eq_2 <| And.intro @ptrTo.eq_3 <| And.intro @ptrTo.eq_4 <| And.intro @ptrTo.eq_5 <| And.intro @ptrAdd.eq_1 <| And.intro @ptrAdd.eq_2 <| And.intro @ptrAdd.eq_3 <| And.intro @ptrAdd.eq_4 <| And.intro @ptrAdd.eq_5 <| And.intro @slOf.eq_1 <| And.intro @slOf.eq_2 <| And.intro @slOf.eq_3 <| And.intro @slOf.eq_4 <| And.intro @slOf.eq_5 <| And.intro @optI.eq_1 <| And.intro @optI.eq_2 <| And.intro @optR.eq_1 <| And.intro @optR.eq_2 <| And.intro @dstOf.eq_1 <| And.intro @dstOf.eq_2 <| And.intro @dstOf.eq_3 <| And.intro @frzW.eq_1 <| And.intro @cellsOf.eq_1 <| And.intro @cellsOf.eq_2 <| And.intro @cellsOf.eq_3 <| And.intro @cellOk.eq_1 <| And.intro @cellOk.eq_2 <| And.intro @cellOk.eq_3 <| And.intro @isRow.eq_1 <| And.intro @isRow.eq_2 <| And.intro @isSlT.eq_1 <| And.intro @nilK.eq_1 <| And.intro @nilK.eq_2 <| And.intro @nilK.eq_3 <| And.intro @eqK.eq_1 <| And.intro @eqK.eq_2 <| And.intro @eqK.eq_3 <| And.intro @arrK.eq_1 <| And.intro @tvNm.eq_1 <| And.intro @tvNm.eq_2 <| And.intro @tvAt.eq_1 <| And.intro @partsT.eq_1 <| And.intro @partsR.eq_1 <| And.intro @fty.eq_1 <| And.intro @putAt.eq_1 <| And.intro @rowsW.eq_1 <| And.intro @rowsW.eq_2 <| And.intro @argsV.eq_1 <| And.intro @argsV.eq_2 <| And.intro @byVal.eq_1 <| And.intro @byVal.eq_2 <| And.intro @byVal.eq_3 <| And.intro @frzT.eq_1 <| And.intro @frzT.eq_2 <| And.intro @frzT.eq_3 <| And.intro @frzT.eq_4 <| And.intro @frzT.eq_5 <| And.intro @frzT.eq_6 <| And.intro @frzL.eq_1 <| And.intro @frzL.eq_2 <| And.intro @partsF.eq_1 <| And.intro @partsF.eq_2 <| And.intro @placesT.eq_1 <| And.intro @placesT.eq_2 <| And.intro @fillG.eq_1 <| And.intro @fillG.eq_2 <| And.intro @zTV.eq_1 <| And.intro @zTV.eq_2 <| And.intro @zSV.eq_1 <| And.intro @zSV.eq_2 <| And.intro @zeros.eq_1 <| And.intro @svs.eq_1 <| And.intro @svs.eq_2 <| And.intro @svs.eq_3 <| And.intro @rawX.eq_1 <| And.intro @deadX.eq_1 <| And.intro @TV.sh.eq_1 <| And.intro @TV.sh.eq_2 <| And.intro @PX.sh.eq_1 <| And.intro @PX.sh.eq_2 <| And.intro @X.sh.eq_1 <| And.intro @X.sh.eq_2 <| And.intro @TV.small.eq_1 <| And.intro @TV.small.eq_2 <| And.intro @PX.all.eq_1 <| And.intro @PX.all.eq_2 <| And.intro @X.all.eq_1 <| And.intro @X.all.eq_2 <| And.intro @TK.agg.eq_1 <| And.intro @TK.agg.eq_2 <| And.intro @TK.agg.eq_3 <| And.intro @simple.eq_1 <| And.intro @simple.eq_2 <| And.intro @simple.eq_3 <| And.intro @simple.eq_4 <| And.intro @simple.eq_5 <| And.intro @simple.eq_6 <| And.intro @simple.eq_7 <| And.intro @simple.eq_8 <| And.intro @simple.eq_9 <| And.intro @simple.eq_10 <| And.intro @simple.eq_11 <| And.intro @th.eq_1 <| And.intro @isPtT.eq_1 <| And.intro @isIfT.eq_1 <| And.intro @isCon.eq_1 <| And.intro @isCon.eq_2 <| And.intro @vOpF.eq_1 <| And.intro @frzArg.eq_1 <| And.intro @frzArg.eq_2 <| And.intro @frzArg.eq_3 <| And.intro @opArgs.eq_1 <| And.intro @frzP.eq_1 <| And.intro @ups.eq_1 <| And.intro @ups.eq_2 <| And.intro @up.eq_1 <| And.intro @vCallM.eq_1 <| And.intro @vCallM.eq_2 <| And.intro @vCallS.eq_1 <| And.intro @vCallS.eq_2 <| And.intro @moveK.eq_1 <| And.intro @vCallBx.eq_1 <| And.intro @bxM.eq_1 <| And.intro @nestH.eq_1 <| And.intro @argH.eq_1 <| And.intro @argH.eq_2 <| And.intro @boxH.eq_1 <| And.intro @prH.eq_1 <| And.intro @prH.eq_2 <| And.intro @prH.eq_3 <| And.intro @addM.eq_1 <| And.intro @cellB.eq_1 <| And.intro @cellB.eq_2 <| And.intro @cellB.eq_3 <| And.intro @cellB.eq_4 <| And.intro @cellsB.eq_1 <| And.intro @cellsB.eq_2 <| And.intro @byB.eq_1 <| And.intro @byB.eq_2 <| And.intro @byB.eq_3 <| And.intro @argsB.eq_1 <| And.intro @argsB.eq_2 <| And.intro @boxesB.eq_1 <| And.intro @boxesB.eq_2 <| And.intro @backT.eq_1 <| And.intro @backT.eq_2 <| And.intro @backT.eq_3 <| And.intro @boxW.eq_1 <| And.intro @boxW.eq_2 <| And.intro @numb.eq_1 <| And.intro @numb.eq_2 <| And.intro @noneW.eq_1 <| And.intro @capH.eq_1 <| And.intro @capH.eq_2 <| And.intro @vFuncB.eq_1 <| And.intro @vIface.eq_1 <| And.intro @vPanic.eq_1 <| And.intro @vConvS.eq_1 <| And.intro @vConvX.eq_1 <| And.intro @vCallRx.eq_1 <| And.intro @rwM.eq_1 <| And.intro @rowHs.eq_1 <| And.intro @rowHs.eq_2 <| And.intro @srH.eq_1 <| And.intro @srH.eq_2 <| And.intro @addMR.eq_1 <| And.intro @cellR.eq_1 <| And.intro @cellR.eq_2 <| And.intro @cellsR.eq_1 <| And.intro @cellsR.eq_2 <| And.intro @boxesR.eq_1 <| And.intro @boxesR.eq_2 <| And.intro @rowsR.eq_1 <| And.intro @rowsR.eq_2 <| And.intro @backR.eq_1 <| And.intro @backR.eq_2 <| And.intro @backR.eq_3 <| And.intro @backR.eq_4 <| And.intro @boxWR.eq_1 <| And.intro @boxWR.eq_2 <| And.intro @rowsWL.eq_1 <| @rowsWL.eq_2
def E3 := And.intro @plain.eq_1 <| And.intro @frzs.eq_1 <| And.intro @frzs.eq_2 <| And.intro @frzK.eq_1 <| And.intro @frzO.eq_1 <| And.intro @frzO.eq_2 <| And.intro @frzC.eq_1 <| And.intro @frzC.eq_2 <| And.intro @frzD.eq_1 <| And.intro @frzD.eq_2 <| And.intro @frzD.eq_3 <| And.intro @frzD.eq_4 <| And.intro @frzB.eq_1 <| And.intro @frzB.eq_2 <| And.intro @frzBL.eq_1 <| And.intro @frzBL.eq_2 <| And.intro @frzX.eq_1 <| And.intro @frzX.eq_2 <| And.intro @denls.eq_1 <| And.intro @denls.eq_2 <| And.intro @denlT.eq_1 <| And.intro @nlW.eq_1 <| And.intro @nlW.eq_2 <| And.intro @allUnder.eq_1 <| And.intro @denlBs.eq_1 <| And.intro @denlBs.eq_2 <| And.intro @denlB.eq_1 <| And.intro @nlCells.eq_1 <| And.intro @nlCells.eq_2 <| And.intro @nlCells.eq_3 <| And.intro @boxHomes.eq_1 <| And.intro @mkM.eq_1 <| And.intro @nest.eq_1 <| And.intro @addH.eq_1 <| And.intro @mOk.eq_1 <| And.intro @mOk.eq_2 <| And.intro @listF.eq_1 <| And.intro @ent.eq_1 <| And.intro @isDead.eq_1 <| And.intro @isDead.eq_2 <| And.intro @isDead.eq_3 <| And.intro @renF.eq_1 <| And.intro @renF.eq_2 <| And.intro @renF.eq_3 <| And.intro @renC.eq_1 <| And.intro @renC.eq_2 <| And.intro @renC.eq_3 <| And.intro @renX.eq_1 <| And.intro @renX.eq_2 <| And.intro @renPX.eq_1 <| And.intro @renPX.eq_2 <| And.intro @renTV.eq_1 <| And.intro @renTV.eq_2 <| And.intro @renTV.eq_3 <| And.intro @renTV.eq_4 <| And.intro @renTV.eq_5 <| And.intro @fwd.eq_1 <| And.intro @fwds.eq_1 <| And.intro @fwds.eq_2 <| And.intro @inv.eq_1 <| And.intro @TV.homes.eq_1 <| And.intro @TV.homes.eq_2 <| And.intro @TV.homes.eq_3 <| And.intro @TV.homes.eq_4 <| And.intro @TV.homes.eq_5 <| And.intro @PX.homes.eq_1 <| And.intro @PX.homes.eq_2 <| And.intro @X.homes.eq_1 <| And.intro @X.homes.eq_2 <| And.intro @C.homes.eq_1 <| And.intro @C.homes.eq_2 <| And.intro @C.homes.eq_3 <| And.intro @Nm.homes.eq_1 <| And.intro @Nm.homes.eq_2 <| @Nm.homes.eq_3
def E4 := And.intro @vEnd.eq_1 <| And.intro @endX.eq_1 <| And.intro @endX.eq_2 <| And.intro @endP.eq_1 <| And.intro @endP.eq_2 <| And.intro @endPs.eq_1 <| And.intro @endPs.eq_2 <| And.intro @endC.eq_1 <| And.intro @endC.eq_2 <| And.intro @endC.eq_3 <| And.intro @endL.eq_1 <| And.intro @endL.eq_2 <| And.intro @endB.eq_1 <| And.intro @endB.eq_2 <| And.intro @endB.eq_3 <| And.intro @isPr.eq_1 <| And.intro @isPr.eq_2 <| And.intro @isPrX.eq_1 <| And.intro @isPrX.eq_2 <| And.intro @vRes.eq_1 <| And.intro @resX.eq_1 <| And.intro @partsOf.eq_1 <| And.intro @partsOf.eq_2 <| And.intro @partOf.eq_1 <| And.intro @partOf.eq_2 <| And.intro @resM.eq_1 <| And.intro @dedup.eq_1 <| And.intro @rowAt.eq_1 <| And.intro @rowsAt.eq_1 <| And.intro @rowsAt.eq_2 <| And.intro @numbered.eq_1 <| @numbered.eq_2
theorem range_0 : List.range 0 = [] := rfl
theorem range_1 : List.range 1 = [0] := rfl
theorem range_2 : List.range 2 = [0, 1] := rfl
theorem range_3 : List.range 3 = [0, 1, 2] := rfl
theorem range_4 : List.range 4 = [0, 1, 2, 3] := rfl
theorem range_5 : List.range 5 = [0, 1, 2, 3, 4] := rfl
theorem range_6 : List.range 6 = [0, 1, 2, 3, 4, 5] := rfl
theorem range_7 : List.range 7 = [0, 1, 2, 3, 4, 5, 6] := rfl
theorem range_8 : List.range 8 = [0, 1, 2, 3, 4, 5, 6, 7] := rfl
theorem range_9 : List.range 9 = [0, 1, 2, 3, 4, 5, 6, 7, 8] := rfl
theorem range_10 : List.range 10 = [0, 1, 2, 3, 4, 5, 6, 7, 8, 9] := rfl
theorem range_11 : List.range 11 = [0, 1, 2, 3, 4, 5, 6, 7, 8, 9, 10] := rfl
theorem range_12 : List.range 12 = [0, 1, 2, 3, 4, 5, 6, 7, 8, 9, 10, 11] := rfl
def E5 := And.intro @range_0 <| And.intro @range_1 <| And.intro @range_2 <| And.intro @range_3 <| And.intro @range_4 <| And.intro @range_5 <| And.intro @range_6 <| And.intro @range_7 <| And.intro @range_8 <| And.intro @range_9 <| And.intro @range_10 <| And.intro @range_11 <| And.intro @range_12 <| And.intro @List.replicate_zero.{0} <| And.intro @look_nil <| And.intro @look_cons <| And.intro @cnt1 <| And.intro @Bool.and_true <| And.intro @Bool.true_and <| And.intro @Bool.and_false <| And.intro @Bool.false_and <| And.intro @Bool.or_false <| And.intro @Bool.or_true <| And.intro @Bool.true_or <| And.intro @Bool.false_or <| And.intro @Nm.t.injEq <| And.intro @Nm.row.injEq <| And.intro @Nm.box.injEq <| And.intro @Bool.not_true <| And.intro @Bool.not_false <| And.intro @Bool.false_eq_true <| And.intro @Nat.zero_add <| And.intro @Nat.add_zero <| And.intro @List.nil_append.{0} <| And.intro @List.cons_append.{0} <| And.intro @List.append_nil.{0} <| And.intro @List.length_cons.{0} <| And.intro @List.length_nil.{0} <| And.intro @List.all_cons.{0} <| And.intro @List.all_nil.{0} <| And.intro @List.any_cons.{0} <| And.intro @List.any_nil.{0} <| And.intro @List.getElem?_cons_zero.{0} <| And.intro @List.getElem?_cons_succ.{0} <| And.intro @List.getElem?_nil.{0} <| And.intro @List.getD_cons_zero.{0} <| And.intro @List.getD_cons_succ.{0} <| And.intro @List.getD_nil.{0} <| And.intro @List.take_zero.{0} <| And.intro @List.take_succ_cons.{0} <| And.intro @List.drop_zero.{0} <| And.intro @List.drop_succ_cons.{0} <| And.intro @List.take_nil.{0} <| And.intro @List.drop_nil.{0} <| And.intro @List.headD_cons.{0} <| And.intro @List.headD_nil.{0} <| And.intro @List.isEmpty_nil.{0} <| And.intro @List.isEmpty_cons.{0} <| And.intro @List.find?_cons.{0} <| And.intro @List.find?_nil.{0} <| And.intro @Option.some.injEq.{0} <| And.intro @beq_self_eq_true.{0} <| And.intro @List.map_cons.{0, 0} <| And.intro @List.map_nil.{0, 0} <| And.intro @List.flatMap_cons.{0, 0} <| And.intro @List.flatMap_nil.{0, 0} <| And.intro @List.foldl_cons.{0, 0} <| And.intro @List.foldl_nil.{0, 0} <| And.intro @Option.map_some.{0, 0} <| And.intro @Option.map_none.{0, 0} <| And.intro @Option.bind_some.{0, 0} <| And.intro @Option.bind_none.{0, 0} <| And.intro @List.filterMap_cons.{0, 0} <| @List.filterMap_nil.{0, 0}
theorem cut_len {e : Nat} {xs : List SV} {l h : Int} (he : e = 1) (h0 : 0 ≤ l) (h1 : l ≤ h) (h2 : h ≤ xs.length) : ((cutSV e xs l h).length : Int) = h - l := by
  subst he; simp [cutSV]; omega
theorem cut_to (xs : List SV) (h : Int) (h0 : 0 ≤ h) : cutSV 1 xs 0 h = xs.take h.toNat := by simp [cutSV]
theorem cut_from (xs : List SV) (l : Int) (h0 : 0 ≤ l) : cutSV 1 xs l xs.length = xs.drop l.toNat := by
  simp only [cutSV, Nat.mul_one]
  exact List.take_of_length_le (by simp; omega)
def lv (l : List (List Nat)) (i : Nat) : List Nat := l.getD i []
/-! ### the end of a function -/
def Kf (T : Tab) (rs : List ResultVar) (res : X) (rows : Rows) (e : GEx) (G : List (Nm × C)) : Prop := (e = .normal ∨ e = .ret) ∧ vRes T rs G fun res' rows' => res' = res ∧ rows' = rows
theorem Kf_r {T rs res rows G} (h : vRes T rs G fun res' rows' => res' = res ∧ rows' = rows) : Kf T rs res rows .ret G := ⟨.inr rfl, h⟩
theorem fn_ok' {P : Program} {T : Tab} {O : Orc} (hT : Tok P T) (hO : OrcOk P O) (hm : P.follows .mixedOrders = true) {f : Nat} {fn : Func} {c : Code} (hf : P.funcs[f]? = some fn) (hb : fn.body = some c) (hcb : callableB fn = true) (vars : Nat → List Nat) (nt : Nat) (hnt : fn.ntmps = nt)
    {args : List X} {res : X} {rows : Rows} {fr : Bool} (hn : args.length ≤ nt) (hres : res.all TV.res = true) (hfr : fr = true → res.all TV.rawR = true ∧ ∀ r ∈ rows, ∀ x ∈ r.2.2, x.isRaw = true)
    (h : vCode T O nt vars c (argsG 0 args) (Kf T fn.results.toList res rows)) : CallOk P f args res rows fr := by
  subst hnt
  exact fn_ok hT hO hm hf hb hcb vars hn hres hfr h
theorem fn_nil' {P : Program} {T : Tab} {O : Orc} (hT : Tok P T) (hO : OrcOk P O) (hm : P.follows .mixedOrders = true) {f : Nat} {fn : Func} {c : Code} (hf : P.funcs[f]? = some fn) (hb : fn.body = some c) (hcb : callableB fn = true) (vars : Nat → List Nat) (ty : Nat) (nt : Nat) (hnt : fn.ntmps = nt)
    {e0 : Nat} {xs : List SV} {args : List X} {res : X} {rows : Rows} {fr : Bool} (hn : args.length + 1 ≤ nt) (hres : res.all TV.res = true) (hfr : fr = true → res.all TV.rawR = true ∧ ∀ r ∈ rows, ∀ x ∈ r.2.2, x.isRaw = true)
    (h1 : xs = [] → vCode T O nt vars c (argsG 0 (.p (.one (.nl ty 0)) :: args)) (Kf T fn.results.toList res rows))
    (h2 : vCode T O nt vars c (argsG 0 (.p (.one (.nn e0 xs)) :: args)) (Kf T fn.results.toList res rows)) : CallOk P f (.p (.one (.v (.sl e0 xs))) :: args) res rows fr := by
  subst hnt
  exact fn_nil hT hO hm hf hb hcb vars ty hn hres hfr h1 h2
theorem wrap_in {n : Int} (h1 : -9223372036854775808 ≤ n) (h2 : n ≤ 9223372036854775807) : IntKind.i64.wrap n = n := by rw [IntKind.wrap_i64]; omega
theorem wrap32_in {n : Int} (h1 : -2147483648 ≤ n) (h2 : n ≤ 2147483647) : IntKind.i32.wrap n = n := by simp [IntKind.wrap, IntKind.bits, IntKind.signed]; omega
def noO : Orc := ⟨fun _ _ _ => False, fun _ _ _ => False, fun _ _ _ _ => False, fun _ => false, fun _ _ _ _ => False, fun _ => false, fun _ _ _ _ => False, fun _ => false, fun _ _ _ _ _ => False, fun _ => false⟩
theorem noO_ok (P) : OrcOk P noO := ⟨fun _ _ _ _ h => h.elim, fun _ _ _ _ h => h.elim, fun _ _ _ _ _ h => h.elim, fun _ _ _ _ h => h.elim, fun _ _ _ h => h.elim, fun _ _ _ h => h.elim⟩
theorem noO_mv (f : Nat) : noO.mv f = false := rfl
theorem noO_bx (f : Nat) : noO.bx f = false := rfl
theorem noO_sx (f : Nat) : noO.sx f = false := rfl
theorem noO_rx (f : Nat) : noO.rx f = false := rfl
theorem fn_okM' {P : Program} {T : Tab} {O : Orc} (hT : Tok P T) (hO : OrcOk P O) (hm : P.follows .mixedOrders = true) {f : Nat} {fn : Func} {c : Code} (hf : P.funcs[f]? = some fn) (hb : fn.body = some c) (hcb : callableB fn = true) (vars : Nat → List Nat) (nt : Nat) (hnt : fn.ntmps = nt)
    {row : Nat × Nat × List SV} {args : List X} {res : X} {rows : Rows} (hn : args.length + 1 ≤ nt) (hres : res.all TV.res = true)
    (h : vCode T O nt vars c ((.row 0, .row row.1 row.2.1 row.2.2) :: argsG 0 (.p (.one (.sr 0)) :: args)) (Kf T fn.results.toList res rows)) : CallM P f row args res rows := by
  subst hnt
  exact fn_okM hT hO hm hf hb hcb vars hn hres h
theorem fn_okB' {P : Program} {T : Tab} {O : Orc} (hT : Tok P T) (hO : OrcOk P O) (hm : P.follows .mixedOrders = true) {f : Nat} {fn : Func} {c : Code} (hf : P.funcs[f]? = some fn) (hb : fn.body = some c) (hcb : callableB fn = true) (vars : Nat → List Nat) (nt : Nat) (hnt : fn.ntmps = nt)
    {bs0 : Boxes} {args : List X} {out : Out} (hn : args.length ≤ nt) (hok : out.ok bs0.length) (h : vCode T O nt vars c (lentL 0 bs0 ++ argsG 0 args) (Kb T fn.results.toList args (wrs c) out)) : CallB P f bs0 args out := by
  subst hnt
  exact fn_okB hT hO hm hf hb hcb vars hn hok h
theorem Kb_n {T rs args W res bs G} (h : vEnd T rs args W (bs.map fun b => !b.2.isEmpty) G fun res' bs' => res' = res ∧ bs'.map (fun b => b.2) = bs.map (fun b => b.2) ∧ bs'.map (fun b => if b.2.isEmpty then 0 else b.1) = bs.map (fun b => if b.2.isEmpty then 0 else b.1)) : Kb T rs args W (.ret res bs) .normal G := h
theorem Kb_r {T rs args W res bs G} (h : vEnd T rs args W (bs.map fun b => !b.2.isEmpty) G fun res' bs' => res' = res ∧ bs'.map (fun b => b.2) = bs.map (fun b => b.2) ∧ bs'.map (fun b => if b.2.isEmpty then 0 else b.1) = bs.map (fun b => if b.2.isEmpty then 0 else b.1)) : Kb T rs args W (.ret res bs) .ret G := h
theorem Kb_p {T rs args W v G} : Kb T rs args W (.pan v) (.panic v) G := rfl
abbrev sl (xs : List SV) : X := .p (.one (.v (.sl 1 xs)))
abbrev sln (e : Nat) (xs : List SV) : X := .p (.one (.v (.sl e xs)))
abbrev i64 (n : Int) : X := .p (.one (.v (.raw (.int .i64 n))))
abbrev bo (b : Bool) : X := .p (.one (.v (.raw (.bool b))))
end Go.Proofs.YtdpflafjfkooeaaGreatDoorG
/- H1: what came in, by value. -/
namespace Go.Proofs.YtdpflafjfkooeaaGreatDoorG
open Go Go.RowKit Go.Proofs.YtdpflafjfkooeaaGreatDoor
set_option linter.unusedVariables false
set_option linter.unusedSimpArgs false
/-- Cells that may be of a type; n bounds the lengths of slices and strings. -/
inductive Typ (T : Tab) (n : Nat) : Nat → List SV → Prop
  | int (t k s b z m) (h : T t = some ⟨.int k, s, b, z⟩) (hw : (Lit.int k m).wf = true) : Typ T n t [.raw (.int k m)]
  | bool (t s b z x) (h : T t = some ⟨.bool, s, b, z⟩) : Typ T n t [.raw (.bool x)]
  | str (t s b z) (x : ByteArray) (h : T t = some ⟨.str, s, b, z⟩) (hx : x.size ≤ n) : Typ T n t [.raw (.string x)]
  | sl (t e s b z ei) (xss : List (List SV)) (h : T t = some ⟨.slice e, s, b, z⟩) (hi : T e = some ei) (hl : xss.length ≤ n) (hx : ∀ xs ∈ xss, Typ T n e xs) (hs : ∀ xs ∈ xss, xs.length = ei.size) : Typ T n t [.sl ei.size xss.flatten]
  | struct (t fs s b z) (xss : List (List SV)) (h : T t = some ⟨.struct fs, s, b, z⟩) (hl : xss.length = fs.length) (hx : ∀ (i : Nat) f xs, fs[i]? = some f → xss[i]? = some xs → Typ T n f.1 xs) : Typ T n t xss.flatten
  | arr (t m e s b z) (xss : List (List SV)) (h : T t = some ⟨.arr m e, s, b, z⟩) (hl : xss.length = m) (hx : ∀ xs ∈ xss, Typ T n e xs) : Typ T n t xss.flatten
theorem Typ.mono {T n n' t xs} (hn : n ≤ n') (h : Typ T n t xs) : Typ T n' t xs := by
  induction h with
  | int t k s b z m h hw => exact .int t k s b z m h hw
  | bool t s b z x h => exact .bool t s b z x h
  | str t s b z x h hx => exact .str t s b z x h (Nat.le_trans hx hn)
  | sl t e s b z ei xss h hi hl hx hs ih => exact .sl t e s b z ei xss h hi (Nat.le_trans hl hn) ih hs
  | struct t fs s b z xss h hl hx ih => exact .struct t fs s b z xss h hl ih
  | arr t m e s b z xss h hl hx ih => exact .arr t m e s b z xss h hl ih
/-! ### which types are read -/
def layB (T : Tab) : Nat → List (Nat × Nat) → Option Nat
  | off, [] => some off
  | off, (ft, o) :: r => match T ft with
    | some i => if o = off then layB T (off + i.size) r else none
    | none => none
def szB (T : Tab) (e n s : Nat) : Bool := match T e with | some ei => decide (s = n * ei.size) | none => false
def posB (T : Tab) (e : Nat) : Bool := match T e with | some ei => decide (0 < ei.size) | none => false
def okT (T : Tab) : Nat → Nat → Bool
  | 0, _ => false
  | m + 1, t => match T t with
    | some ⟨.int _, _, _, _⟩ => true
    | some ⟨.bool, _, _, _⟩ => true
    | some ⟨.str, _, _, _⟩ => true
    | some ⟨.slice e, _, _, _⟩ => posB T e && okT T m e
    | some ⟨.struct fs, s, _, _⟩ => decide (layB T 0 fs = some s) && fs.all fun f => okT T m f.1
    | some ⟨.arr n e, s, _, _⟩ => szB T e n s && okT T m e
    | _ => false
/-! ### lists of rows of one length -/
theorem flat_get {α : Type} {e : Nat} (he : 0 < e) : ∀ {l : List (List α)}, (∀ x ∈ l, x.length = e) → ∀ j, l.flatten[j]? = (l[j / e]?).bind fun x => x[j % e]?
  | [], _, j => by simp
  | x :: l, h, j => by
    have hx := h x (by simp)
    rw [List.flatten_cons]
    by_cases hj : j < e
    · rw [List.getElem?_append_left (by omega), Nat.div_eq_of_lt hj, Nat.mod_eq_of_lt hj]; rfl
    · rw [List.getElem?_append_right (by omega), hx, flat_get he (fun y hy => h y (by simp [hy])) (j - e)]
      have e1 : j / e = (j - e) / e + 1 := by rw [Nat.div_eq_sub_div he (by omega)]
      have e2 : j % e = (j - e) % e := by rw [Nat.mod_eq_sub_mod (by omega)]
      rw [e1, e2]; rfl
theorem flat_len {α : Type} {e : Nat} : ∀ {l : List (List α)}, (∀ x ∈ l, x.length = e) → l.flatten.length = l.length * e
  | [], _ => by simp
  | x :: l, h => by rw [List.flatten_cons, List.length_append, h x (by simp), flat_len fun y hy => h y (by simp [hy]), List.length_cons, Nat.succ_mul]; omega
theorem all2_flat {α β : Type} {R : α → β → Prop} : ∀ {us : List (List α)} {xs : List (List β)}, All2 (All2 R) us xs → All2 R us.flatten xs.flatten
  | [], [], _ => .nil
  | [], x :: xs, h => by have := h.1; simp at this
  | u :: us, [], h => by have := h.1; simp at this
  | u :: us, x :: xs, h => by simp only [List.flatten_cons]; exact h.head.append (all2_flat h.tail)
theorem one_le {H : Type} (d : DataW H) : 1 ≤ Rows.uptoBulk d := by
  cases d with
  | lit l => cases l <;> simp [Rows.uptoBulk]
  | nil => simp [Rows.uptoBulk]
  | ptr d => simp [Rows.uptoBulk]
  | slice elems spare => simp [Rows.uptoBulk]
  | agg parts => simp [Rows.uptoBulk]
  | iface t d => simp [Rows.uptoBulk]
  | map entries => simp [Rows.uptoBulk]
  | held h => simp [Rows.uptoBulk]
theorem part_le {H : Type} {d : DataW H} {l : List (DataW H)} (h : d ∈ l) : Rows.uptoBulk d ≤ Rows.uptoBulkAll l := by
  induction l with
  | nil => cases h
  | cons x r ih =>
    simp only [Rows.uptoBulkAll]
    cases List.mem_cons.1 h with
    | inl e => subst e; omega
    | inr e => have := ih e; omega
theorem length_le {H : Type} (l : List (DataW H)) : l.length ≤ Rows.uptoBulkAll l := by
  induction l with
  | nil => simp [Rows.uptoBulkAll]
  | cons x r ih => have := one_le x; simp only [Rows.uptoBulkAll, List.length_cons]; omega
section
variable {H : Type} {enc : TypeId × Value → H} {P : Program} {T : Tab} (hT : Tok P T) {W : World} {base : Nat} {sp : Nat → Bool} {held : Bool}
/-- All that lies does not change. -/
def oI (W : World) (b : Nat) : Tag := if b < W.heap.size then .imm else .other
theorem cellsOf_T {P : Program} {t i} (h : TIok P t i) : P.cellsOf t = i.size := by
  obtain ⟨j, z, h1, h2, _⟩ := h.info'
  simp [Program.cellsOf, h1, h2]
theorem cells_at {W : World} {base : Nat} {a : Addr} {n : Nat} {cs : List Value} (h : W.cells? base a n = some cs) : cs.length = n ∧ ∀ j u, cs[j]? = some u → W.cell? (a.add j) = some u := by
  unfold World.cells? at h
  split at h
  · have key : ∀ (l : List Nat) (cs : List Value), l.mapM (fun i => W.cell? (a.add i)) = some cs → cs.length = l.length ∧ ∀ (j : Nat) i u, l[j]? = some i → cs[j]? = some u → W.cell? (a.add i) = some u := by
      intro l
      induction l with
      | nil => intro cs h; simp at h; subst h; exact ⟨rfl, fun j i u h1 => by simp at h1⟩
      | cons i l ih =>
        intro cs h
        rw [List.mapM_cons] at h
        obtain ⟨c, h1, h2⟩ := Option.bind_eq_some_iff.1 h
        obtain ⟨r, h3, h4⟩ := Option.bind_eq_some_iff.1 h2
        cases h4
        obtain ⟨e1, e2⟩ := ih r h3
        refine ⟨by simp [e1], fun j i' u q1 q2 => ?_⟩
        cases j with
        | zero => simp at q1 q2; subst q1; subst q2; exact h1
        | succ j => exact e2 j i' u (by simpa using q1) (by simpa using q2)
    obtain ⟨e1, e2⟩ := key _ _ h
    refine ⟨by simpa using e1, fun j u hj => ?_⟩
    have hlt : j < n := by
      have := (List.getElem?_eq_some_iff.1 hj).1
      rw [e1] at this; simpa using this
    exact e2 j j u (List.getElem?_range hlt) hj
  · cases h
theorem spot_of {W : World} {a : Addr} {u : Value} (h : W.cell? a = some u) : a = ⟨a.block, a.off, none⟩ ∧ a.block < W.heap.size := by
  unfold World.cell? at h
  split at h
  · rename_i c _ _ hb
    split at h
    · cases h
    · rename_i hs
      refine ⟨?_, (Array.getElem?_eq_some_iff.1 hb).1⟩
      cases a with
      | mk b o s => cases s <;> simp_all
  · cases h
include hT
/-- The parts of a struct or an array, one behind the other. -/
theorem trod_parts {m : Nat} (ih : ∀ t, okT T m t = true → ∀ fuel cs d ps, DataW.trod enc P W base sp held fuel t cs = some (d, ps) → ∃ xs, All2 (SVR W (oI W)) cs xs ∧ Typ T (Rows.uptoBulk d) t xs) {fuel : Nat} {cs : List Value} :
    ∀ (L : List (Nat × Nat)) (off tot : Nat) (ys : List (DataW H × List MemPlace)), layB T off L = some tot → (L.all fun f => okT T m f.1) = true → L.mapM (fun p => DataW.trod enc P W base sp held fuel p.1 ((cs.drop p.2).take (P.cellsOf p.1))) = some ys → cs.length = tot → off ≤ tot →
      ∃ xss : List (List SV), xss.length = L.length ∧ All2 (SVR W (oI W)) (cs.drop off) xss.flatten ∧ ∀ (i : Nat) f xs, L[i]? = some f → xss[i]? = some xs → Typ T (Rows.uptoBulkAll (ys.map (·.1))) f.1 xs
  | [], off, tot, ys, hl, _, _, hc, _ => by
    simp only [layB, Option.some.injEq] at hl
    subst hl
    rw [List.drop_of_length_le (by omega)]
    exact ⟨[], rfl, .nil, fun i f xs h => by simp at h⟩
  | (ft, o) :: L, off, tot, ys, hl, hok, hm, hc, hle => by
    simp only [layB] at hl
    split at hl
    case h_2 => cases hl
    rename_i ti hti
    split at hl
    case isFalse => cases hl
    rename_i ho
    subst ho
    simp only [List.all_cons, Bool.and_eq_true] at hok
    rw [List.mapM_cons] at hm
    obtain ⟨y, h1, h2⟩ := Option.bind_eq_some_iff.1 hm
    obtain ⟨r, h3, h4⟩ := Option.bind_eq_some_iff.1 h2
    cases h4
    obtain ⟨d, p⟩ := y
    obtain ⟨xs, hx1, hx2⟩ := ih ft hok.1 fuel _ d p h1
    have hge : ∀ (L : List (Nat × Nat)) (off tot : Nat), layB T off L = some tot → off ≤ tot := by
      intro L
      induction L with
      | nil => intro off tot h; simp only [layB, Option.some.injEq] at h; omega
      | cons q L ihL =>
        intro off tot h
        obtain ⟨q1, q2⟩ := q
        simp only [layB] at h
        split at h
        · split at h
          · have := ihL _ _ h; omega
          · cases h
        · cases h
    have hle2 := hge L _ _ hl
    obtain ⟨xss, e1, e2, e3⟩ := trod_parts ih L (o + ti.size) tot r hl hok.2 h3 hc hle2
    rw [cellsOf_T (hT ft ti hti)] at hx1
    refine ⟨xs :: xss, by simp [e1], ?_, fun i f ys h1 h2 => ?_⟩
    · have : cs.drop o = (cs.drop o).take ti.size ++ cs.drop (o + ti.size) := by rw [← List.drop_drop, List.take_append_drop]
      rw [this, List.flatten_cons]
      exact hx1.append e2
    · cases i with
      | zero => simp at h1 h2; subst h1; subst h2; exact hx2.mono (by simp [Rows.uptoBulkAll])
      | succ i => exact (e3 i f ys (by simpa using h1) (by simpa using h2)).mono (by simp [Rows.uptoBulkAll])
theorem trod_typ : ∀ (m t : Nat), okT T m t = true → ∀ fuel cs d ps, DataW.trod enc P W base sp held fuel t cs = some (d, ps) → ∃ xs, All2 (SVR W (oI W)) cs xs ∧ Typ T (Rows.uptoBulk d) t xs
  | 0, t, h => by simp [okT] at h
  | m + 1, t, hok => by
    intro fuel cs d ps h
    cases fuel with
    | zero => simp [DataW.trod] at h
    | succ fuel =>
      simp only [okT] at hok
      split at hok
      · rename_i k s b z ht
        obtain ⟨dd, hu, he⟩ := (hT t _ ht).und'
        cases dd <;> simp [dK] at he
        subst he
        unfold DataW.trod at h
        rw [hu] at h
        split at h <;> simp_all
        obtain ⟨⟨rfl, hw⟩, rfl, rfl⟩ := h
        exact ⟨_, .cons (.raw _ rfl) .nil, .int t _ s b z _ ht hw⟩
      · rename_i s b z ht
        obtain ⟨dd, hu, he⟩ := (hT t _ ht).und'
        cases dd <;> simp [dK] at he
        unfold DataW.trod at h
        rw [hu] at h
        split at h <;> simp_all
        obtain ⟨rfl, rfl⟩ := h
        exact ⟨_, .cons (.raw _ rfl) .nil, .bool t s b z _ ht⟩
      · rename_i s b z ht
        have hu := (hT t _ ht).str rfl
        unfold DataW.trod at h
        rw [hu] at h
        split at h <;> simp_all
        obtain ⟨hsz, rfl, rfl⟩ := h
        exact ⟨_, .cons (.raw _ rfl) .nil, .str t s b z _ ht (by simp [Rows.uptoBulk])⟩
      · rename_i e s b z ht
        simp only [Bool.and_eq_true] at hok
        have hu := (hT t _ ht).slice rfl
        obtain ⟨ei, hei⟩ : ∃ ei, T e = some ei := by
          have := hok.1; unfold posB at this; split at this
          · rename_i ei h; exact ⟨ei, h⟩
          · cases this
        have he0 : 0 < ei.size := by have := hok.1; unfold posB at this; rw [hei] at this; simpa using this
        rcases Deep.open_slice hu h with ⟨rfl, hx⟩ | ⟨a, len, cap, mm, n, D, Pl, rfl, hb, hl, hm, hmm, hx, hel⟩
        · cases hx
          exact ⟨[.sl ei.size []], .cons (.nil _ _ _ fun _ => rfl) .nil, .sl t e s b z ei [] ht hei (by simp) (by simp) (by simp)⟩
        · cases hx
          have hlm : len ≤ mm := by rw [hmm]; split <;> omega
          have hex : ∀ i, ∃ r : List Value × List SV, i < len → W.cells? base (a.add (i * P.cellsOf e)) (P.cellsOf e) = some r.1 ∧ All2 (SVR W (oI W)) r.1 r.2 ∧ Typ T (Rows.uptoBulk (D i)) e r.2 := fun i => by
            by_cases hi : i < len
            · obtain ⟨cs', h1, h2⟩ := hel i (by omega)
              obtain ⟨xs, h3, h4⟩ := trod_typ m e hok.2 n cs' _ _ h2
              exact ⟨(cs', xs), fun _ => ⟨h1, h3, h4⟩⟩
            · exact ⟨([], []), fun h => absurd h hi⟩
          obtain ⟨F, hF⟩ := Classical.axiomOfChoice hex
          have hsz := cellsOf_T (hT e ei hei)
          rw [hsz] at hF
          have hF1 : ∀ i, i < len → (F i).1.length = ei.size ∧ (F i).2.length = ei.size := fun i hi => by
            obtain ⟨h1, h2, h3⟩ := hF i hi
            have := (cells_at h1).1
            exact ⟨this, by rw [← h2.1]; exact this⟩
          have hbulk : Rows.uptoBulk (DataW.slice ((List.range len).map D) ((List.range (mm - len)).map fun j => D (len + j))) = Rows.uptoBulkAll ((List.range len).map D) + Rows.uptoBulkAll ((List.range (mm - len)).map fun j => D (len + j)) + 1 := by simp [Rows.uptoBulk]
          have hmem : ∀ xs ∈ (List.range len).map fun i => (F i).2, ∃ i, i < len ∧ xs = (F i).2 := fun xs hxs => by
            obtain ⟨i, hi, rfl⟩ := List.mem_map.1 hxs
            exact ⟨i, List.mem_range.1 hi, rfl⟩
          have htyp : Typ T (Rows.uptoBulk (DataW.slice ((List.range len).map D) ((List.range (mm - len)).map fun j => D (len + j)))) t [.sl ei.size ((List.range len).map fun i => (F i).2).flatten] := by
            refine .sl t e s b z ei _ ht hei ?_ (fun xs hxs => ?_) fun xs hxs => ?_
            · have := length_le ((List.range len).map D)
              simp only [List.length_map, List.length_range] at this ⊢
              rw [hbulk]; omega
            · obtain ⟨i, hi, rfl⟩ := hmem xs hxs
              refine (hF i hi).2.2.mono ?_
              have := part_le (d := D i) (l := (List.range len).map D) (List.mem_map.2 ⟨i, List.mem_range.2 hi, rfl⟩)
              rw [hbulk]; omega
            · obtain ⟨i, hi, rfl⟩ := hmem xs hxs
              exact (hF1 i hi).2
          refine ⟨_, .cons ?_ .nil, htyp⟩
          by_cases h0 : len = 0
          · subst h0
            exact .nil _ _ _ fun h => by cases h
          · have hc0 := cells_at (hF 0 (by omega)).1
            have hl0 := (hF1 0 (by omega)).1
            obtain ⟨u0, hu0⟩ : ∃ u, (F 0).1[0]? = some u := ⟨(F 0).1[0]'(by omega), List.getElem?_eq_getElem (by omega)⟩
            obtain ⟨hsp, hlt⟩ := spot_of (hc0.2 0 u0 hu0)
            simp only [Nat.zero_mul, Addr.add, if_true] at hsp hlt
            have hrows : ∀ x ∈ (List.range len).map fun i => (F i).1, x.length = ei.size := fun x hx => by
              obtain ⟨i, hi, rfl⟩ := List.mem_map.1 hx
              exact (hF1 i (List.mem_range.1 hi)).1
            have hfl : ((List.range len).map fun i => (F i).1).flatten.length = len * ei.size := by rw [flat_len hrows]; simp
            have ha2 : All2 (SVR W (oI W)) ((List.range len).map fun i => (F i).1).flatten ((List.range len).map fun i => (F i).2).flatten := by
              refine all2_flat ⟨by simp, fun j us xs h1 h2 => ?_⟩
              rw [List.getElem?_map] at h1 h2
              cases hj : (List.range len)[j]? with
              | none => simp [hj] at h1
              | some i =>
                simp only [hj, Option.map_some, Option.some.injEq] at h1 h2
                subst h1; subst h2
                exact (hF i (List.mem_range.1 (List.mem_of_getElem? hj))).2.1
            rw [hsp]
            refine .sl a.block a.off len cap ei.size _ _ (by simp [oI, hlt]) he0 (by omega) (by rw [← ha2.1, hfl]) hl ha2.1 (fun j u hj => ?_) ha2.2
            rw [flat_get he0 hrows, List.getElem?_map] at hj
            cases hq : (List.range len)[j / ei.size]? with
            | none => simp [hq] at hj
            | some i =>
              have hi : i < len := List.mem_range.1 (List.mem_of_getElem? hq)
              have hiq : i = j / ei.size := by
                have hlt := (List.getElem?_eq_some_iff.1 hq).1
                simp only [List.length_range] at hlt
                rw [List.getElem?_range hlt] at hq
                injection hq with hq
                exact hq.symm
              simp only [hq, Option.map_some, Option.bind_some] at hj
              have := (cells_at (hF i hi).1).2 _ u hj
              have e1 : (a.add (i * ei.size)).add (j % ei.size) = ⟨a.block, a.off + j, none⟩ := by
                rw [hsp, Addr.add_lit, Addr.add_lit, hiq]
                have := Nat.div_add_mod j ei.size
                have e3 : a.off + j / ei.size * ei.size + j % ei.size = a.off + j := by rw [Nat.mul_comm (j / ei.size)]; omega
                simp only [e3]
              rw [e1] at this
              exact this
      · rename_i fs s b z ht
        simp only [Bool.and_eq_true, decide_eq_true_eq] at hok
        obtain ⟨dd, hu, he⟩ := (hT t _ ht).und'
        cases dd <;> simp [dK] at he
        rename_i fl
        have hstep : DataW.trod enc P W base sp held (fuel + 1) t cs = if cs.length = P.cellsOf t then (fl.toList.mapM fun f => DataW.trod enc P W base sp held fuel f.type ((cs.drop f.offset).take (P.cellsOf f.type))).map fun xs => (.agg (xs.map (·.1)), xs.flatMap (·.2)) else none := by
          simp only [DataW.trod, hu]
        rw [hstep] at h
        split at h
        case isFalse => cases h
        rename_i hlen
        obtain ⟨ys, h1, h2⟩ := Option.map_eq_some_iff.1 h
        cases h2
        have h1' : (fs.mapM fun p => DataW.trod enc P W base sp held fuel p.1 ((cs.drop p.2).take (P.cellsOf p.1))) = some ys := by
          rw [← he]
          have key : ∀ l : List Go.Field, (l.map fun f => (f.type, f.offset)).mapM (fun p : Nat × Nat => DataW.trod enc P W base sp held fuel p.1 ((cs.drop p.2).take (P.cellsOf p.1))) = l.mapM fun f => DataW.trod enc P W base sp held fuel f.type ((cs.drop f.offset).take (P.cellsOf f.type)) := by
            intro l
            induction l with
            | nil => rfl
            | cons f l ih => rw [List.map_cons, List.mapM_cons, List.mapM_cons, ih]
          rw [key]; exact h1
        rw [cellsOf_T (hT t _ ht)] at hlen
        obtain ⟨xss, e1, e2, e3⟩ := trod_parts hT (fun t h => trod_typ m t h) fs 0 s ys hok.1 (by simpa using hok.2) h1' hlen (Nat.zero_le _)
        refine ⟨xss.flatten, by simpa using e2, .struct t fs s b z xss ht e1 fun i f xs q1 q2 => (e3 i f xs q1 q2).mono (by simp [Rows.uptoBulk])⟩
      · rename_i n e s b z ht
        simp only [Bool.and_eq_true] at hok
        have hu := (hT t _ ht).arr rfl
        obtain ⟨ei, hei⟩ : ∃ ei, T e = some ei := by
          have := hok.1; unfold szB at this; split at this
          · rename_i ei h; exact ⟨ei, h⟩
          · cases this
        have hsn : s = n * ei.size := by have := hok.1; unfold szB at this; rw [hei] at this; simpa using this
        have hstep : DataW.trod enc P W base sp held (fuel + 1) t cs = if cs.length = P.cellsOf t then ((List.range n).mapM fun i => DataW.trod enc P W base sp held fuel e ((cs.drop (i * P.cellsOf e)).take (P.cellsOf e))).map fun xs => (.agg (xs.map (·.1)), xs.flatMap (·.2)) else none := by
          simp only [DataW.trod, hu]
        rw [hstep] at h
        split at h
        case isFalse => cases h
        rename_i hlen
        obtain ⟨ys, h1, h2⟩ := Option.map_eq_some_iff.1 h
        cases h2
        rw [cellsOf_T (hT t _ ht)] at hlen
        have h1' : (((List.range n).map fun i => (e, i * ei.size)).mapM fun p => DataW.trod enc P W base sp held fuel p.1 ((cs.drop p.2).take (P.cellsOf p.1))) = some ys := by
          have key : ∀ l : List Nat, (l.map fun i => (e, i * ei.size)).mapM (fun p : Nat × Nat => DataW.trod enc P W base sp held fuel p.1 ((cs.drop p.2).take (P.cellsOf p.1))) = l.mapM fun i => DataW.trod enc P W base sp held fuel e ((cs.drop (i * P.cellsOf e)).take (P.cellsOf e)) := by
            intro l
            induction l with
            | nil => rfl
            | cons i l ih => rw [List.map_cons, List.mapM_cons, List.mapM_cons, ih]; simp only [cellsOf_T (hT e ei hei)]
          rw [key]; exact h1
        have hlay : ∀ k off, layB T (off * ei.size) ((List.range' off k).map fun i => (e, i * ei.size)) = some ((off + k) * ei.size) := by
          intro k
          induction k with
          | zero => intro off; simp [layB]
          | succ k ih =>
            intro off
            rw [List.range'_succ, List.map_cons]
            simp only [layB, hei, if_true]
            rw [show off * ei.size + ei.size = (off + 1) * ei.size from (Nat.succ_mul off ei.size).symm, ih (off + 1)]
            congr 2; omega
        obtain ⟨xss, e1, e2, e3⟩ := trod_parts hT (fun t h => trod_typ m t h) ((List.range n).map fun i => (e, i * ei.size)) 0 s ys (by have := hlay n 0; rw [Nat.zero_mul, Nat.zero_add, ← List.range_eq_range'] at this; rw [this, hsn]) (by simp [hok.2]) h1' hlen (Nat.zero_le _)
        have e1' : xss.length = n := by simpa using e1
        refine ⟨xss.flatten, by simpa using e2, .arr t n e s b z xss ht e1' fun xs hxs => ?_⟩
        obtain ⟨i, hi⟩ := List.mem_iff_getElem?.1 hxs
        have hlt : i < n := by have := (List.getElem?_eq_some_iff.1 hi).1; omega
        exact (e3 i (e, i * ei.size) xs (by simp [hlt]) hi).mono (by simp [Rows.uptoBulk])
      · cases hok
end
end Go.Proofs.YtdpflafjfkooeaaGreatDoorG
/- H2: what came in, by value: from types to numbers, lists and structs. -/
namespace Go.Proofs.YtdpflafjfkooeaaGreatDoorG
open Go Go.RowKit Go.Proofs.YtdpflafjfkooeaaGreatDoor
set_option linter.unusedVariables false
set_option linter.unusedSimpArgs false
theorem Typ.int' {T n t xs k s b z} (h : Typ T n t xs) (ht : T t = some ⟨.int k, s, b, z⟩) : ∃ m, xs = [.raw (.int k m)] ∧ k.min ≤ m ∧ m ≤ k.max := by
  cases h with
  | int _ k' _ _ _ m h hw =>
    rw [ht] at h
    simp only [Option.some.injEq, TI.mk.injEq, TK.int.injEq] at h
    obtain ⟨rfl, _⟩ := h
    exact ⟨m, rfl, by simpa [Lit.wf] using hw⟩
  | _ => simp_all
theorem Typ.sl' {T n t xs e s b z ei} (h : Typ T n t xs) (ht : T t = some ⟨.slice e, s, b, z⟩) (hi : T e = some ei) : ∃ xss : List (List SV), xs = [.sl ei.size xss.flatten] ∧ xss.length ≤ n ∧ ∀ ys ∈ xss, Typ T n e ys := by
  cases h with
  | sl _ e' _ _ _ ei' xss h hi' hl hx hs =>
    rw [ht] at h
    simp only [Option.some.injEq, TI.mk.injEq, TK.slice.injEq] at h
    obtain ⟨rfl, _⟩ := h
    rw [hi] at hi'
    cases hi'
    exact ⟨xss, rfl, hl, hx⟩
  | _ => simp_all
theorem Typ.struct' {T n t xs fs s b z} (h : Typ T n t xs) (ht : T t = some ⟨.struct fs, s, b, z⟩) : ∃ xss : List (List SV), xs = xss.flatten ∧ All2 (fun (f : Nat × Nat) ys => Typ T n f.1 ys) fs xss := by
  cases h with
  | struct _ fs' _ _ _ xss h hl hx =>
    rw [ht] at h
    simp only [Option.some.injEq, TI.mk.injEq, TK.struct.injEq] at h
    obtain ⟨rfl, _⟩ := h
    exact ⟨xss, rfl, hl.symm, hx⟩
  | _ => simp_all
theorem all2_c1 {α β : Type} {R : α → β → Prop} {u : α} {us : List α} {xs : List β} (h : All2 R (u :: us) xs) : ∃ x xs', xs = x :: xs' ∧ R u x ∧ All2 R us xs' := by
  cases xs with
  | nil => have := h.1; simp at this
  | cons x xs => exact ⟨x, xs, rfl, h.head, h.tail⟩
theorem all2_n {α β : Type} {R : α → β → Prop} {xs : List β} (h : All2 R ([] : List α) xs) : xs = [] := by
  have := h.1; exact List.eq_nil_of_length_eq_zero (by simpa using this.symm)
/-- One by one. -/
theorem choose_l {α β : Type} {p : β → Prop} {f : β → α} : ∀ {xs : List α}, (∀ x ∈ xs, ∃ y, x = f y ∧ p y) → ∃ ys : List β, xs = ys.map f ∧ ∀ y ∈ ys, p y
  | [], _ => ⟨[], rfl, fun y hy => by cases hy⟩
  | x :: xs, h => by
    obtain ⟨y, rfl, hy⟩ := h x (by simp)
    obtain ⟨ys, rfl, hys⟩ := choose_l (fun x hx => h x (by simp [hx]) : ∀ x ∈ xs, ∃ y, x = f y ∧ p y)
    exact ⟨y :: ys, rfl, fun z hz => by rcases List.mem_cons.1 hz with rfl | hz; exact hy; exact hys z hz⟩
/-- A list of whole numbers. -/
theorem Typ.ints {T n t xs e k s b z s' b' z'} (h : Typ T n t xs) (ht : T t = some ⟨.slice e, s, b, z⟩) (hi : T e = some ⟨.int k, s', b', z'⟩) : ∃ l : List Int, xs = [.sl s' (l.map fun n => .raw (.int k n))] ∧ (∀ m ∈ l, k.min ≤ m ∧ m ≤ k.max) ∧ l.length ≤ n := by
  obtain ⟨xss, rfl, hl, hx⟩ := h.sl' ht hi
  obtain ⟨l, rfl, hp⟩ := choose_l (p := fun m => k.min ≤ m ∧ m ≤ k.max) (f := fun m => [SV.raw (.int k m)]) fun ys hys => (hx ys hys).int' hi
  refine ⟨l, ?_, hp, by simpa using hl⟩
  congr 2
  clear hx hl hp h
  induction l with
  | nil => rfl
  | cons m l ih => simp only [List.map_cons, List.flatten_cons, ih]; rfl
theorem flat_map {α : Type} {f : α → List SV} (l : List α) : (l.map f).flatten = l.flatMap f := by rw [List.flatMap_def]
/-! ### parameters -/
section
variable {H : Type} {enc : TypeId × Value → H} {P : Program} {T : Tab} (hT : Tok P T) {W : World} {base : Nat} {sp : Nat → Bool} {held : Bool}
def gI (W : World) : Gh := { o := oI W, hd := fun _ => undef, bk := fun _ => 0 }
include hT
theorem arg_agg {cs : Array Value} {d : DataW H} {p : List MemPlace} {t m n : Nat} (hok : okT T m t = true) (h : DataW.Trod enc P W base sp held t (.agg cs) d p) (hn : Rows.uptoBulk d ≤ n) : ∃ xs, Typ T n t xs ∧ XR W (gI W) (.agg cs) (.p (.agg (xs.map .v))) := by
  obtain ⟨fuel, hf⟩ := h
  obtain ⟨xs, h1, h2⟩ := trod_typ hT m t hok fuel _ d p hf
  exact ⟨xs, h2.mono hn, cs, rfl, h1.svTv⟩
end
theorem gI_other (W : World) (b : Nat) : (gI W).o b = .other ∨ (gI W).o b = .imm := by simp only [gI, oI]; split <;> simp
theorem gI_lt (W : World) (b : Nat) (h : (gI W).o b ≠ .other) : b < W.heap.size := by simp only [gI, oI] at h; split at h <;> simp_all
theorem Fr.below {W W' : World} {g' : Gh} (h : Fr W W' (gI W).o g'.o) : Below W.heap.size W W' := ⟨h.os, h.tape, h.output, h.size, fun b hb => (h.keep b hb (gI_other W b)).1⟩
theorem bulk1 {H : Type} {ds : List (DataW H)} {d : DataW H} (hk : Rows.uptoSmall H ds = true) (h : d ∈ ds) : Rows.uptoBulk d ≤ 1048576 := Nat.le_trans (part_le h) (of_decide_eq_true hk)
/-- A law that answers true, called at what came in. -/
theorem gr_no {w : World} {o : Nat → Tag} (h : GON = false) : GR w o := fun q => by rw [h] at q; cases q
theorem gr_gI {W : World} (h : W.cell? ⟨0, 0, none⟩ = some GV) : GR W (gI W).o := fun _ => by
  have hlt : 0 < W.heap.size := by
    rcases Nat.eq_zero_or_pos W.heap.size with h0 | h'
    · simp [World.cell?, h0] at h
    · exact h'
  exact ⟨by simp only [gI, oI, if_pos hlt], h⟩
theorem law_calls {P : Program} {f : Nat} {xs : List X} {fr : Bool} {rows : Rows} {W : World} {vs : List Value} (h : CallOk P f xs (bo true) rows fr) (ha : All2 (XR W (gI W)) vs xs) (hG : GR W (gI W).o := by exact gr_no rfl) : Calls P f vs.toArray W fun e W' => e = .returned (.bool true) ∧ Below W.heap.size W W' :=
  (h.calls W vs (gI W) (gI_other W) (gI_lt W) hG ha).mono fun e W' hh => by
    obtain ⟨v, g', rfl, hf, _, hx, _⟩ := hh
    have := (raw_of hx).1
    exact ⟨by rw [this], hf.below⟩
end Go.Proofs.YtdpflafjfkooeaaGreatDoorG
