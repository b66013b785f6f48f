/- G15: symbolic execution: lemmas for simp. -/
import Derived.Test.YtdpflafjfkooeaaDoorG14
namespace Go.Proofs.YtdpflafjfkooeaaDoorG
open Go Go.RowKit
set_option linter.unusedVariables false
set_option linter.unusedSimpArgs false

/-- What comes behind an operation. -/
def Kt (T : Tab) (O : Orc) (nt : Nat) (ops : List Oper) (i : Nat) (r : List Oper) (G : List (Nm × C)) (log : Acts) (K : Option Value → List (Nm × C) → Acts → Prop) (rd : List Nm) (wr : List (Nm × C)) : Prop := match panV wr with
  | some v => K (some v) G (log ++ [(rd, [])])
  | none => vOps T O nt ops i r (wr ++ G) (log ++ [(rd, wr)]) K
theorem vOps_cons' {T O nt ops i o r G log K} (h : vStep T O nt ops i o (look G) (Kt T O nt ops (i + 1) r G log K)) : vOps T O nt ops i (o :: r) G log K := h
theorem vOps_nil' {T O nt ops i G log K} (h : K none G log) : vOps T O nt ops i [] G log K := h
theorem Kt_i {T O nt ops i r G log K rd wr} (h0 : panV wr = none) (h : vOps T O nt ops i r (wr ++ G) (log ++ [(rd, wr)]) K) : Kt T O nt ops i r G log K rd wr := by unfold Kt; rw [h0]; exact h
theorem Kt_p {T O nt ops i r G log K rd v} (h : K (some v) G (log ++ [(rd, [])])) : Kt T O nt ops i r G log K rd (pan v) := h
/-- Behind a region. -/
def Kr (T : Tab) (O : Orc) (nt : Nat) (ops : List Oper) (draw : Bool) (G : List (Nm × C)) (vars : List Nat) (Q : GEx → List (Nm × C) → Prop) (pv : Option Value) (G' : List (Nm × C)) (acts : Acts) : Prop := match pv with
  | none => regOk ops draw G acts = true ∧ Q .normal (plain vars G')
  | some v => panRegion T O nt ops draw G G' acts (Q (.panic v) [])
/-- A region's operations, from a state on. -/
def Kv (T : Tab) (O : Orc) (nt : Nat) (ops : List Oper) (draw : Bool) (vars : List Nat) (Q : GEx → List (Nm × C) → Prop) (G : List (Nm × C)) : Prop := vOps T O nt ops 0 ops G [] (Kr T O nt ops draw G vars Q)
theorem Kv_i {T O nt ops draw vars Q G} (h : vOps T O nt ops 0 ops G [] (Kr T O nt ops draw G vars Q)) : Kv T O nt ops draw vars Q G := h
theorem vRegion_i {T O nt vars id} {ops : Array Oper} {draw G Q} (hs : ((vars id).all fun i => decide (i < 2000000)) = true) (h : vOps T O nt ops.toList 0 ops.toList G [] (Kr T O nt ops.toList draw G (vars id) Q)) : vCode T O nt vars (.region id ops draw) G Q := vSpl_none hs h
theorem vRegion_s {T O nt vars id} {ops : Array Oper} {draw G Q} (h : vSpl (vars id) G (Kv T O nt ops.toList draw (vars id) Q)) : vCode T O nt vars (.region id ops draw) G Q := h
/-- What stands behind an operation that panics. -/
def KtR (T : Tab) (O : Orc) (nt : Nat) (ops : List Oper) (p i : Nat) (r : List Oper) (G : List (Nm × C)) (log : Acts) (K : Acts → Prop) (rd : List Nm) (wr : List (Nm × C)) : Prop := match panV wr with
  | some _ => False
  | none => vRest T O nt ops p i r (wr ++ G) (log ++ [(rd, wr)]) K
def KrR (ops : List Oper) (G0 : List (Nm × C)) (q : Prop) (acts : Acts) : Prop := regOk ops true G0 acts = true ∧ q
theorem KrR_i {ops G0 q acts} (h1 : regOk ops true G0 acts = true) (h2 : q) : KrR ops G0 q acts := ⟨h1, h2⟩
theorem vR_nil {T O nt ops p i G log K} (h : K log) : vRest T O nt ops p i [] G log K := h
theorem vR_skip {T O nt ops p i o r G log K} (hb : ((masks ops []).getD i 0).testBit p = true) (h : vRest T O nt ops p (i + 1) r G (log ++ [([], [])]) K) : vRest T O nt ops p i (o :: r) G log K := by unfold vRest; rw [hb]; exact h
theorem vR_cons {T O nt ops p i o r G log K} (hb : ((masks ops []).getD i 0).testBit p = false) (h : vStep T O nt ops i o (look G) (KtR T O nt ops p (i + 1) r G log K)) : vRest T O nt ops p i (o :: r) G log K := by unfold vRest; rw [hb]; exact h
theorem KtR_i {T O nt ops p i r G log K rd wr} (h0 : panV wr = none) (h : vRest T O nt ops p i r (wr ++ G) (log ++ [(rd, wr)]) K) : KtR T O nt ops p i r G log K rd wr := by unfold KtR; rw [h0]; exact h
theorem Kr_f {T O nt ops G vars Q v G' acts} (h1 : regOk ops false G acts = true) (h2 : Q (.panic v) []) : Kr T O nt ops false G vars Q (some v) G' acts := ⟨h1, h2⟩
theorem Kr_t {T O nt ops G vars Q v G' acts} (h : vRest T O nt ops (acts.length - 1) acts.length (ops.drop acts.length) G' acts (KrR ops G (Q (.panic v) []))) : Kr T O nt ops true G vars Q (some v) G' acts := h
theorem imp_i {p q : Prop} (h : p → q) : impS p q := h
theorem Kr_i {T O nt ops draw G vars Q G' acts} (h1 : regOk ops draw G acts = true) (h2 : Q .normal (plain vars G')) : Kr T O nt ops draw G vars Q none G' acts := ⟨h1, h2⟩
def Ks (T : Tab) (O : Orc) (nt : Nat) (vars : Nat → List Nat) (y : Code) (Q : GEx → List (Nm × C) → Prop) : GEx → List (Nm × C) → Prop := GEx.seq (fun G' => vCode T O nt vars y G' Q) Q
theorem vSeq_i {T O nt vars x y G Q} (h : vCode T O nt vars x G (Ks T O nt vars y Q)) : vCode T O nt vars (.seq x y) G Q := h
theorem Ks_n {T O nt vars y Q G} (h : vCode T O nt vars y G Q) : Ks T O nt vars y Q .normal G := h
theorem Ks_e {T O nt vars y Q G id} (h : Q (.exit id) G) : Ks T O nt vars y Q (.exit id) G := h
theorem Ks_r {T O nt vars y Q G} (h : Q .ret G) : Ks T O nt vars y Q .ret G := h
theorem Ks_p {T O nt vars y Q G v} (h : Q (.panic v) G) : Ks T O nt vars y Q (.panic v) G := h
theorem blk_p {id Q G v} (h : Q (.panic v) G) : GEx.blk id Q (.panic v) G := h
theorem Ks_g {T O nt vars y Q G l} (h : Q (.goto l) G) : Ks T O nt vars y Q (.goto l) G := h
theorem blk_g {id Q G l} (h : Q (.goto l) G) : GEx.blk id Q (.goto l) G := h
theorem vGoto_i {T O nt vars l G Q} (h : Q (.goto l) G) : vCode T O nt vars (.goto l) G Q := h
theorem vLabel_i {T O nt vars l G Q} (h : Q .normal G) : vCode T O nt vars (.label l) G Q := h
theorem jmp_g {l J Q G} (h : J G) : GEx.jmp l J Q (.goto l) G := ⟨rfl, h⟩
theorem jmp_n {l J Q G} (h : Q .normal G) : GEx.jmp l J Q .normal G := h
theorem jmp_r {l J Q G} (h : Q .ret G) : GEx.jmp l J Q .ret G := h
theorem nog_n {Q G} (h : Q .normal G) : GEx.nog Q .normal G := h
theorem nog_r {Q G} (h : Q .ret G) : GEx.nog Q .ret G := h
theorem vRet_i {T O nt vars G Q} (h : Q .ret G) : vCode T O nt vars .ret G Q := h
theorem vSkip_i {T O nt vars G Q} (h : Q .normal G) : vCode T O nt vars .skip G Q := h
theorem vExit_i {T O nt vars G Q id} (h : Q (.exit id) G) : vCode T O nt vars (.exit id) G Q := h
theorem vBlock_i {T O nt vars G Q id x} (h : vCode T O nt vars x G (GEx.blk id Q)) : vCode T O nt vars (.block id x) G Q := h
theorem blk_n {id Q G} (h : Q .normal G) : GEx.blk id Q .normal G := h
theorem blk_r {id Q G} (h : Q .ret G) : GEx.blk id Q .ret G := h
theorem blk_e {id Q G} (h : Q .normal G) : GEx.blk id Q (.exit id) G := by simp only [GEx.blk, if_true]; exact h
theorem blk_o {id id' Q G} (hne : id' ≠ id) (h : Q (.exit id') G) : GEx.blk id Q (.exit id') G := by simp only [GEx.blk, if_neg hne]; exact h
theorem vCond_t {T O nt vars c x y G Q} (hc : opX (look G) c = .p (.one (.v (.raw (.bool true))))) (h : vCode T O nt vars x G Q) : vCode T O nt vars (.cond c x y) G Q := by simp only [vCode, hc]; exact h
theorem vCond_f {T O nt vars c x y G Q} (hc : opX (look G) c = .p (.one (.v (.raw (.bool false))))) (h : vCode T O nt vars y G Q) : vCode T O nt vars (.cond c x y) G Q := by simp only [vCode, hc]; exact h
/-- Behind a round of a loop. -/
def Kl {σ : Type} (S : σ → List (Nm × C)) (p : σ → Prop) (m : σ → Nat) (n : Nat) (Q : GEx → List (Nm × C) → Prop) : GEx → List (Nm × C) → Prop := GEx.seq (fun G'' => ∃ k, k < n ∧ ∃ s', p s' ∧ G'' = S s' ∧ m s' = k) Q
theorem Kl_n {σ : Type} {S : σ → List (Nm × C)} {p : σ → Prop} {m : σ → Nat} {n : Nat} {Q G} (h : ∃ s', p s' ∧ m s' < n ∧ G = S s') : Kl S p m n Q .normal G := by
  obtain ⟨s, h1, h2, h3⟩ := h
  exact ⟨m s, h2, s, h1, h3, rfl⟩
theorem Kl_e {σ : Type} {S : σ → List (Nm × C)} {p : σ → Prop} {m : σ → Nat} {n : Nat} {Q G id} (h : Q (.exit id) G) : Kl S p m n Q (.exit id) G := h
theorem Kl_r {σ : Type} {S : σ → List (Nm × C)} {p : σ → Prop} {m : σ → Nat} {n : Nat} {Q G} (h : Q .ret G) : Kl S p m n Q .ret G := h
theorem Kl_p {σ : Type} {S : σ → List (Nm × C)} {p : σ → Prop} {m : σ → Nat} {n : Nat} {Q G v} (h : Q (.panic v) G) : Kl S p m n Q (.panic v) G := h
theorem Kl_g {σ : Type} {S : σ → List (Nm × C)} {p : σ → Prop} {m : σ → Nat} {n : Nat} {Q G l} (h : Q (.goto l) G) : Kl S p m n Q (.goto l) G := h
/-- A loop, by what it keeps in mind. -/
theorem vLoop_s {T O nt vars x G Q} {σ : Type} (S : σ → List (Nm × C)) (p : σ → Prop) (m : σ → Nat) (s0 : σ) (h0 : p s0) (hG : G = S s0) (hr : ∀ s, p s → vCode T O nt vars x (S s) (Kl S p m (m s) Q)) : vCode T O nt vars (.loop x) G Q := by
  refine ⟨fun n G => ∃ s, p s ∧ G = S s ∧ m s = n, ⟨_, s0, h0, hG, rfl⟩, ?_⟩
  rintro n G' ⟨s, hs, rfl, rfl⟩
  exact hr s hs
/-- A round of a range over a function: the assignments; the body. -/
def Kx (T : Tab) (O : Orc) (nt : Nat) (vars : Nat → List Nat) (y : Code) (K : GEx → List (Nm × C) → Prop) (e : GEx) (G : List (Nm × C)) : Prop := e = .normal ∧ vCode T O nt vars y G K
theorem Kx_n {T O nt vars y K G} (h : vCode T O nt vars y G K) : Kx T O nt vars y K .normal G := ⟨rfl, h⟩
def Ky {σ : Type} (S : σ → List (Nm × C)) (p : σ → Prop) (W : List Nat) (Q : GEx → List (Nm × C) → Prop) (e : GEx) (G : List (Nm × C)) : Prop :=
  match e with
  | .normal => ∃ s, p s ∧ dropT W G = S s
  | .exit id => Q (.exit id) (dropT W G)
  | .ret => Q .ret (dropT W G)
  | .panic _ => False
  | .goto _ => False
theorem Ky_n {σ : Type} {S : σ → List (Nm × C)} {p : σ → Prop} {W Q G} (h : ∃ s, p s ∧ dropT W G = S s) : Ky S p W Q .normal G := h
theorem Ky_e {σ : Type} {S : σ → List (Nm × C)} {p : σ → Prop} {W Q G id} (h : Q (.exit id) (dropT W G)) : Ky S p W Q (.exit id) G := h
theorem Ky_r {σ : Type} {S : σ → List (Nm × C)} {p : σ → Prop} {W Q G} (h : Q .ret (dropT W G)) : Ky S p W Q .ret G := h
/-- A range over a function, by what it keeps in mind. -/
theorem vRange_s {T O nt vars gx ps x y G Q gf caps} {σ : Type} (hgx : opX (look G) gx = .p (.one (.v (.clo gf caps)))) (els : List (List X)) (hit : ∀ K : List (List X) → Prop, K els → O.it gf caps K) (hlen : ∀ xs ∈ els, xs.length = ps.size) (hps : ∀ p ∈ ps.toList, p < nt) (W : List Nat) (hW : ps.toList ++ (wrs x ++ wrs y) = W)
    (S : σ → List (Nm × C)) (p : Nat → σ → Prop) (s0 : σ) (D : List Nat) (h0 : p 0 s0) (hG : dropT D G = S s0)
    (hr : ∀ k s xs, els[k]? = some xs → p k s → vCode T O nt vars x (setPs ps.toList xs (S s)) (Kx T O nt vars y (Ky S (p (k + 1)) W Q))) (he : ∀ s, p els.length s → Q .normal (S s)) : vCode T O nt vars (.rangeFunc gx ps x y) G Q := by
  simp only [vCode, hgx]
  refine hit _ ⟨hlen, hps, D, fun k G => ∃ s, p k s ∧ G = S s, ⟨s0, h0, hG⟩, ?_, ?_⟩
  · rintro k xs G1 hk ⟨s, hs, rfl⟩
    rw [hW]
    exact hr k s xs hk hs
  · rintro G1 ⟨s, hs, rfl⟩
    exact he s hs
theorem vB_i {p : Prop} {K : Bool → Prop} (h1 : p → K true) (h2 : ¬ p → K false) : vB p K := ⟨h1, h2⟩

/-! ### what an operation comes to: for simp -/
set_option linter.defProp false
theorem look_nil (n : Nm) : look [] n = .none := rfl
theorem look_cons (m c r n) : look ((m, c) :: r) n = if n = m then c else look r n := rfl
theorem cnt1 (xs : List SV) : cnt 1 xs = xs.length := by simp [cnt]
theorem raw_x (v : Value) : rawX v = .p (.one (.v (.raw v))) := rfl
theorem dead_x : deadX = .p (.one .dead) := rfl
theorem ands {p q : Prop} (h : p) : (p ∧ q) = q := by simp [h]
def E1 := And.intro @vStep.eq_1 <| And.intro @vOp.eq_1 <| And.intro @vMoveT.eq_1 <| And.intro @vPick.eq_1 <| And.intro @vAlloc.eq_1 <| And.intro @vBox.eq_1 <| And.intro @vBuild.eq_1 <| And.intro @vBuildSlice.eq_1 <| And.intro @vLoad.eq_1 <| And.intro @vStore.eq_1 <| And.intro @vNilCheck.eq_1 <| And.intro @vBin.eq_1 <| And.intro @vUn.eq_1 <| And.intro @vUn.eq_2 <| And.intro @vUn.eq_3 <| And.intro @unNot.eq_1 <| And.intro @unNot.eq_2 <| And.intro @unNeg.eq_1 <| And.intro @unNeg.eq_2 <| And.intro @vConv.eq_1 <| And.intro @vMake.eq_1 <| And.intro @vSliceR.eq_1 <| And.intro @vSliceV.eq_1 <| And.intro @vFieldAddr.eq_1 <| And.intro @vField.eq_1 <| And.intro @vIndexAddr.eq_1 <| And.intro @vIndex.eq_1 <| And.intro @vExtract.eq_1 <| And.intro @vCallB.eq_1 <| And.intro @vCallB.eq_2 <| And.intro @vCallB.eq_3 <| And.intro @vCallX.eq_1 <| And.intro @vSliceZ.eq_1 <| And.intro @vFunc.eq_1 <| And.intro @vFuncX.eq_1 <| And.intro @vFuncX.eq_2 <| And.intro @vFuncX.eq_3 <| And.intro @vFuncX.eq_4 <| And.intro @vClo.eq_1 <| And.intro @vClo.eq_2 <| And.intro @vLen.eq_1 <| And.intro @vAppend.eq_1 <| @vCall.eq_1
def E2 := And.intro @vCallG.eq_1 <| And.intro @dOk.eq_1 <| And.intro @vInt.eq_1 <| And.intro @vInt.eq_2 <| And.intro @vInt.eq_3 <| And.intro @vInt.eq_4 <| And.intro @vInt.eq_5 <| And.intro @vInt.eq_6 <| And.intro @vInt.eq_7 <| And.intro @vInt.eq_8 <| And.intro @vInt.eq_9 <| And.intro @vInt.eq_10 <| And.intro @vInt.eq_11 <| And.intro @vInt.eq_12 <| And.intro @vInt.eq_13 <| And.intro @vInt.eq_14 <| And.intro @vInt.eq_15 <| And.intro @vInt.eq_16 <| And.intro @vInt.eq_17 <| And.intro @vStr.eq_1 <| And.intro @vStr.eq_2 <| And.intro @vStr.eq_3 <| And.intro @vStr.eq_4 <| And.intro @vStr.eq_5 <| And.intro @opR.eq_1 <| And.intro @opR.eq_2 <| And.intro @opX.eq_1 <| And.intro @opX.eq_2 <| And.intro @opX.eq_3 <| And.intro @opX.eq_4 <| And.intro @opX.eq_5 <| And.intro @putT.eq_1 <| And.intro @putT.eq_2 <| And.intro @nlAs.eq_1 <| And.intro @nlAs.eq_2 <| And.intro @ptrTo.eq_1 <| And.intro @ptrTo.eq_2 <| And.intro @ptrTo.eq_3 <| And.intro @ptrTo.eq_4 <| And.intro @ptrTo.eq_5 <| And.intro @ptrAdd.eq_1 <| And.intro @ptrAdd.eq_2 <| And.intro @ptrAdd.eq_3 <| And.intro @ptrAdd.eq_4 <| And.intro @ptrAdd.eq_5 <| And.intro @slOf.eq_1 <| And.intro @slOf.eq_2 <| And.intro @slOf.eq_3 <| And.intro @slOf.eq_4 <| And.intro @slOf.eq_5 <| And.intro @optI.eq_1 <| And.intro @optI.eq_2 <| And.intro @optR.eq_1 <| And.intro @optR.eq_2 <| And.intro @dstOf.eq_1 <| And.intro @dstOf.eq_2 <| And.intro @dstOf.eq_3 <| And.intro @frzW.eq_1 <| And.intro @cellsOf.eq_1 <| And.intro @cellsOf.eq_2 <| And.intro @cellsOf.eq_3 <| And.intro @cellOk.eq_1 <| And.intro @cellOk.eq_2 <| And.intro @cellOk.eq_3 <| And.intro @isRow.eq_1 <| And.intro @isRow.eq_2 <| And.intro @isSlT.eq_1 <| And.intro @nilK.eq_1 <| And.intro @nilK.eq_2 <| And.intro @nilK.eq_3 <| And.intro @tvNm.eq_1 <| And.intro @tvNm.eq_2 <| And.intro @tvAt.eq_1 <| And.intro @partsT.eq_1 <| And.intro @partsR.eq_1 <| And.intro @fty.eq_1 <| And.intro @putAt.eq_1 <| And.intro @rowsW.eq_1 <| And.intro @rowsW.eq_2 <| And.intro @argsV.eq_1 <| And.intro @argsV.eq_2 <| And.intro @byVal.eq_1 <| And.intro @byVal.eq_2 <| And.intro @byVal.eq_3 <| And.intro @frzT.eq_1 <| And.intro @frzT.eq_2 <| And.intro @frzT.eq_3 <| And.intro @frzT.eq_4 <| And.intro @frzT.eq_5 <| And.intro @frzT.eq_6 <| And.intro @frzL.eq_1 <| And.intro @frzL.eq_2 <| And.intro @partsF.eq_1 <| And.intro @partsF.eq_2 <| And.intro @placesT.eq_1 <| And.intro @placesT.eq_2 <| And.intro @fillG.eq_1 <| And.intro @fillG.eq_2 <| And.intro @zTV.eq_1 <| And.intro @zTV.eq_2 <| And.intro @zSV.eq_1 <| And.intro @zSV.eq_2 <| And.intro @zeros.eq_1 <| And.intro @svs.eq_1 <| And.intro @svs.eq_2 <| And.intro @svs.eq_3 <| And.intro @rawX.eq_1 <| And.intro @deadX.eq_1 <| And.intro @TV.sh.eq_1 <| And.intro @TV.sh.eq_2 <| And.intro @PX.sh.eq_1 <| And.intro @PX.sh.eq_2 <| And.intro @X.sh.eq_1 <| And.intro @X.sh.eq_2 <| And.intro @TV.small.eq_1 <| And.intro @TV.small.eq_2 <| And.intro @PX.all.eq_1 <| And.intro @PX.all.eq_2 <| And.intro @X.all.eq_1 <| And.intro @X.all.eq_2 <| And.intro @TK.agg.eq_1 <| And.intro @TK.agg.eq_2 <| And.intro @TK.agg.eq_3 <| And.intro @simple.eq_1 <| And.intro @simple.eq_2 <| And.intro @simple.eq_3 <| And.intro @simple.eq_4 <| And.intro @simple.eq_5 <| And.intro @simple.eq_6 <| And.intro @simple.eq_7 <| And.intro @simple.eq_8 <| And.intro @simple.eq_9 <| And.intro @simple.eq_10 <| And.intro @simple.eq_11 <| And.intro @th.eq_1 <| And.intro @isPtT.eq_1 <| And.intro @isIfT.eq_1 <| And.intro @isCon.eq_1 <| And.intro @isCon.eq_2 <| And.intro @vOpF.eq_1 <| And.intro @frzArg.eq_1 <| And.intro @frzArg.eq_2 <| And.intro @frzArg.eq_3 <| And.intro @opArgs.eq_1 <| And.intro @frzP.eq_1 <| And.intro @ups.eq_1 <| And.intro @ups.eq_2 <| And.intro @up.eq_1 <| And.intro @vCallM.eq_1 <| And.intro @vCallM.eq_2 <| And.intro @moveK.eq_1 <| And.intro @vCallBx.eq_1 <| And.intro @bxM.eq_1 <| And.intro @nestH.eq_1 <| And.intro @argH.eq_1 <| And.intro @argH.eq_2 <| And.intro @boxH.eq_1 <| And.intro @prH.eq_1 <| And.intro @prH.eq_2 <| And.intro @prH.eq_3 <| And.intro @addM.eq_1 <| And.intro @cellB.eq_1 <| And.intro @cellB.eq_2 <| And.intro @cellB.eq_3 <| And.intro @cellB.eq_4 <| And.intro @cellsB.eq_1 <| And.intro @cellsB.eq_2 <| And.intro @byB.eq_1 <| And.intro @byB.eq_2 <| And.intro @byB.eq_3 <| And.intro @argsB.eq_1 <| And.intro @argsB.eq_2 <| And.intro @boxesB.eq_1 <| And.intro @boxesB.eq_2 <| And.intro @backT.eq_1 <| And.intro @backT.eq_2 <| And.intro @backT.eq_3 <| And.intro @boxW.eq_1 <| And.intro @boxW.eq_2 <| And.intro @numb.eq_1 <| And.intro @numb.eq_2 <| And.intro @noneW.eq_1 <| And.intro @capH.eq_1 <| And.intro @capH.eq_2 <| And.intro @vFuncB.eq_1 <| And.intro @vIface.eq_1 <| And.intro @vPanic.eq_1 <| And.intro @vConvS.eq_1 <| @vConvX.eq_1
def E3 := And.intro @plain.eq_1 <| And.intro @frzs.eq_1 <| And.intro @frzs.eq_2 <| And.intro @frzC.eq_1 <| And.intro @frzC.eq_2 <| And.intro @frzD.eq_1 <| And.intro @frzD.eq_2 <| And.intro @frzD.eq_3 <| And.intro @frzD.eq_4 <| And.intro @frzB.eq_1 <| And.intro @frzB.eq_2 <| And.intro @frzBL.eq_1 <| And.intro @frzBL.eq_2 <| And.intro @frzX.eq_1 <| And.intro @frzX.eq_2 <| And.intro @denls.eq_1 <| And.intro @denls.eq_2 <| And.intro @denlT.eq_1 <| And.intro @nlW.eq_1 <| And.intro @nlW.eq_2 <| And.intro @allUnder.eq_1 <| And.intro @denlBs.eq_1 <| And.intro @denlBs.eq_2 <| And.intro @denlB.eq_1 <| And.intro @nlCells.eq_1 <| And.intro @nlCells.eq_2 <| And.intro @nlCells.eq_3 <| And.intro @boxHomes.eq_1 <| And.intro @mkM.eq_1 <| And.intro @nest.eq_1 <| And.intro @addH.eq_1 <| And.intro @mOk.eq_1 <| And.intro @mOk.eq_2 <| And.intro @listF.eq_1 <| And.intro @ent.eq_1 <| And.intro @isDead.eq_1 <| And.intro @isDead.eq_2 <| And.intro @isDead.eq_3 <| And.intro @renF.eq_1 <| And.intro @renF.eq_2 <| And.intro @renF.eq_3 <| And.intro @renC.eq_1 <| And.intro @renC.eq_2 <| And.intro @renC.eq_3 <| And.intro @renX.eq_1 <| And.intro @renX.eq_2 <| And.intro @renPX.eq_1 <| And.intro @renPX.eq_2 <| And.intro @renTV.eq_1 <| And.intro @renTV.eq_2 <| And.intro @renTV.eq_3 <| And.intro @renTV.eq_4 <| And.intro @renTV.eq_5 <| And.intro @fwd.eq_1 <| And.intro @fwds.eq_1 <| And.intro @fwds.eq_2 <| And.intro @inv.eq_1 <| And.intro @TV.homes.eq_1 <| And.intro @TV.homes.eq_2 <| And.intro @TV.homes.eq_3 <| And.intro @TV.homes.eq_4 <| And.intro @TV.homes.eq_5 <| And.intro @PX.homes.eq_1 <| And.intro @PX.homes.eq_2 <| And.intro @X.homes.eq_1 <| And.intro @X.homes.eq_2 <| And.intro @C.homes.eq_1 <| And.intro @C.homes.eq_2 <| And.intro @C.homes.eq_3 <| And.intro @Nm.homes.eq_1 <| And.intro @Nm.homes.eq_2 <| @Nm.homes.eq_3
def E4 := And.intro @vEnd.eq_1 <| And.intro @endX.eq_1 <| And.intro @endX.eq_2 <| And.intro @endP.eq_1 <| And.intro @endP.eq_2 <| And.intro @endPs.eq_1 <| And.intro @endPs.eq_2 <| And.intro @endC.eq_1 <| And.intro @endC.eq_2 <| And.intro @endC.eq_3 <| And.intro @endL.eq_1 <| And.intro @endL.eq_2 <| And.intro @endB.eq_1 <| And.intro @endB.eq_2 <| And.intro @endB.eq_3 <| And.intro @isPr.eq_1 <| And.intro @isPr.eq_2 <| And.intro @isPrX.eq_1 <| And.intro @isPrX.eq_2 <| And.intro @vRes.eq_1 <| And.intro @resX.eq_1 <| And.intro @partsOf.eq_1 <| And.intro @partsOf.eq_2 <| And.intro @partOf.eq_1 <| And.intro @partOf.eq_2 <| And.intro @resM.eq_1 <| And.intro @dedup.eq_1 <| And.intro @rowAt.eq_1 <| And.intro @rowsAt.eq_1 <| And.intro @rowsAt.eq_2 <| And.intro @numbered.eq_1 <| @numbered.eq_2
theorem range_0 : List.range 0 = [] := rfl
theorem range_1 : List.range 1 = [0] := rfl
theorem range_2 : List.range 2 = [0, 1] := rfl
theorem range_3 : List.range 3 = [0, 1, 2] := rfl
theorem range_4 : List.range 4 = [0, 1, 2, 3] := rfl
theorem range_5 : List.range 5 = [0, 1, 2, 3, 4] := rfl
theorem range_6 : List.range 6 = [0, 1, 2, 3, 4, 5] := rfl
theorem range_7 : List.range 7 = [0, 1, 2, 3, 4, 5, 6] := rfl
theorem range_8 : List.range 8 = [0, 1, 2, 3, 4, 5, 6, 7] := rfl
theorem range_9 : List.range 9 = [0, 1, 2, 3, 4, 5, 6, 7, 8] := rfl
theorem range_10 : List.range 10 = [0, 1, 2, 3, 4, 5, 6, 7, 8, 9] := rfl
theorem range_11 : List.range 11 = [0, 1, 2, 3, 4, 5, 6, 7, 8, 9, 10] := rfl
theorem range_12 : List.range 12 = [0, 1, 2, 3, 4, 5, 6, 7, 8, 9, 10, 11] := rfl
def E5 := And.intro @range_0 <| And.intro @range_1 <| And.intro @range_2 <| And.intro @range_3 <| And.intro @range_4 <| And.intro @range_5 <| And.intro @range_6 <| And.intro @range_7 <| And.intro @range_8 <| And.intro @range_9 <| And.intro @range_10 <| And.intro @range_11 <| And.intro @range_12 <| And.intro @List.replicate_zero.{0} <| And.intro @look_nil <| And.intro @look_cons <| And.intro @cnt1 <| And.intro @Bool.and_true <| And.intro @Bool.true_and <| And.intro @Bool.and_false <| And.intro @Bool.false_and <| And.intro @Bool.or_false <| And.intro @Bool.or_true <| And.intro @Bool.true_or <| And.intro @Bool.false_or <| And.intro @Nm.t.injEq <| And.intro @Nm.row.injEq <| And.intro @Nm.box.injEq <| And.intro @Bool.not_true <| And.intro @Bool.not_false <| And.intro @Bool.false_eq_true <| And.intro @Nat.zero_add <| And.intro @Nat.add_zero <| And.intro @List.nil_append.{0} <| And.intro @List.cons_append.{0} <| And.intro @List.append_nil.{0} <| And.intro @List.length_cons.{0} <| And.intro @List.length_nil.{0} <| And.intro @List.all_cons.{0} <| And.intro @List.all_nil.{0} <| And.intro @List.any_cons.{0} <| And.intro @List.any_nil.{0} <| And.intro @List.getElem?_cons_zero.{0} <| And.intro @List.getElem?_cons_succ.{0} <| And.intro @List.getElem?_nil.{0} <| And.intro @List.getD_cons_zero.{0} <| And.intro @List.getD_cons_succ.{0} <| And.intro @List.getD_nil.{0} <| And.intro @List.take_zero.{0} <| And.intro @List.take_succ_cons.{0} <| And.intro @List.drop_zero.{0} <| And.intro @List.drop_succ_cons.{0} <| And.intro @List.take_nil.{0} <| And.intro @List.drop_nil.{0} <| And.intro @List.headD_cons.{0} <| And.intro @List.headD_nil.{0} <| And.intro @List.isEmpty_nil.{0} <| And.intro @List.isEmpty_cons.{0} <| And.intro @List.find?_cons.{0} <| And.intro @List.find?_nil.{0} <| And.intro @Option.some.injEq.{0} <| And.intro @beq_self_eq_true.{0} <| And.intro @List.map_cons.{0, 0} <| And.intro @List.map_nil.{0, 0} <| And.intro @List.flatMap_cons.{0, 0} <| And.intro @List.flatMap_nil.{0, 0} <| And.intro @List.foldl_cons.{0, 0} <| And.intro @List.foldl_nil.{0, 0} <| And.intro @Option.map_some.{0, 0} <| And.intro @Option.map_none.{0, 0} <| And.intro @Option.bind_some.{0, 0} <| And.intro @Option.bind_none.{0, 0} <| And.intro @List.filterMap_cons.{0, 0} <| @List.filterMap_nil.{0, 0}
theorem cut_len {e : Nat} {xs : List SV} {l h : Int} (he : e = 1) (h0 : 0 ≤ l) (h1 : l ≤ h) (h2 : h ≤ xs.length) : ((cutSV e xs l h).length : Int) = h - l := by
  subst he; simp [cutSV]; omega
theorem cut_to (xs : List SV) (h : Int) (h0 : 0 ≤ h) : cutSV 1 xs 0 h = xs.take h.toNat := by simp [cutSV]
theorem cut_from (xs : List SV) (l : Int) (h0 : 0 ≤ l) : cutSV 1 xs l xs.length = xs.drop l.toNat := by
  simp only [cutSV, Nat.mul_one]
  exact List.take_of_length_le (by simp; omega)
def lv (l : List (List Nat)) (i : Nat) : List Nat := l.getD i []
/-! ### the end of a function -/
def Kf (T : Tab) (rs : List ResultVar) (res : X) (rows : Rows) (e : GEx) (G : List (Nm × C)) : Prop := (e = .normal ∨ e = .ret) ∧ vRes T rs G fun res' rows' => res' = res ∧ rows' = rows
theorem Kf_n {T rs res rows G} (h : vRes T rs G fun res' rows' => res' = res ∧ rows' = rows) : Kf T rs res rows .normal G := ⟨.inl rfl, h⟩
theorem Kf_r {T rs res rows G} (h : vRes T rs G fun res' rows' => res' = res ∧ rows' = rows) : Kf T rs res rows .ret G := ⟨.inr rfl, h⟩
theorem fn_ok' {P : Program} {T : Tab} {O : Orc} (hT : Tok P T) (hO : OrcOk P O) (hm : P.follows .mixedOrders = true) {f : Nat} {fn : Func} {c : Code} (hf : P.funcs[f]? = some fn) (hb : fn.body = some c) (hcb : callableB fn = true) (vars : Nat → List Nat) (nt : Nat) (hnt : fn.ntmps = nt)
    {args : List X} {res : X} {rows : Rows} {fr : Bool} (hn : args.length ≤ nt) (hres : res.all TV.res = true) (hfr : fr = true → res.all TV.rawR = true ∧ ∀ r ∈ rows, ∀ x ∈ r.2.2, x.isRaw = true)
    (h : vCode T O nt vars c (argsG 0 args) (Kf T fn.results.toList res rows)) : CallOk P f args res rows fr := by
  subst hnt
  exact fn_ok hT hO hm hf hb hcb vars hn hres hfr h
theorem fn_okS' {P : Program} {T : Tab} {O : Orc} (hT : Tok P T) (hO : OrcOk P O) (hm : P.follows .mixedOrders = true) {f : Nat} {fn : Func} {c rest : Code} {l : Nat} (hf : P.funcs[f]? = some fn) (hb : fn.body = some (.scope c)) (hl : findLabel c l = some rest) (hcb : callableB fn = true) (vars : Nat → List Nat) (nt : Nat) (hnt : fn.ntmps = nt)
    {args : List X} {res : X} {rows : Rows} {fr : Bool} (hn : args.length ≤ nt) (hres : res.all TV.res = true) (hfr : fr = true → res.all TV.rawR = true ∧ ∀ r ∈ rows, ∀ x ∈ r.2.2, x.isRaw = true)
    (h : vCode T O nt vars c (argsG 0 args) (GEx.jmp l (fun G' => vCode T O nt vars rest G' (GEx.nog (Kf T fn.results.toList res rows))) (Kf T fn.results.toList res rows))) : CallOk P f args res rows fr := by
  subst hnt
  exact fn_okS hT hO hm hf hb hl hcb vars hn hres hfr h
theorem fn_nil' {P : Program} {T : Tab} {O : Orc} (hT : Tok P T) (hO : OrcOk P O) (hm : P.follows .mixedOrders = true) {f : Nat} {fn : Func} {c : Code} (hf : P.funcs[f]? = some fn) (hb : fn.body = some c) (hcb : callableB fn = true) (vars : Nat → List Nat) (ty : Nat) (nt : Nat) (hnt : fn.ntmps = nt)
    {e0 : Nat} {xs : List SV} {args : List X} {res : X} {rows : Rows} {fr : Bool} (hn : args.length + 1 ≤ nt) (hres : res.all TV.res = true) (hfr : fr = true → res.all TV.rawR = true ∧ ∀ r ∈ rows, ∀ x ∈ r.2.2, x.isRaw = true)
    (h1 : xs = [] → vCode T O nt vars c (argsG 0 (.p (.one (.nl ty 0)) :: args)) (Kf T fn.results.toList res rows))
    (h2 : vCode T O nt vars c (argsG 0 (.p (.one (.nn e0 xs)) :: args)) (Kf T fn.results.toList res rows)) : CallOk P f (.p (.one (.v (.sl e0 xs))) :: args) res rows fr := by
  subst hnt
  exact fn_nil hT hO hm hf hb hcb vars ty hn hres hfr h1 h2
theorem wrap_in {n : Int} (h1 : -9223372036854775808 ≤ n) (h2 : n ≤ 9223372036854775807) : IntKind.i64.wrap n = n := by rw [IntKind.wrap_i64]; omega
theorem wrap32_in {n : Int} (h1 : -2147483648 ≤ n) (h2 : n ≤ 2147483647) : IntKind.i32.wrap n = n := by simp [IntKind.wrap, IntKind.bits, IntKind.signed]; omega
def noO : Orc := ⟨fun _ _ _ => False, fun _ _ _ => False, fun _ _ _ _ => False, fun _ => false, fun _ _ _ _ => False, fun _ => false⟩
theorem noO_ok (P) : OrcOk P noO := ⟨fun _ _ _ _ h => h.elim, fun _ _ _ _ h => h.elim, fun _ _ _ h => h.elim, fun _ _ _ h => h.elim⟩
theorem noO_mv (f : Nat) : noO.mv f = false := rfl
theorem noO_bx (f : Nat) : noO.bx f = false := rfl
theorem fn_okM' {P : Program} {T : Tab} {O : Orc} (hT : Tok P T) (hO : OrcOk P O) (hm : P.follows .mixedOrders = true) {f : Nat} {fn : Func} {c : Code} (hf : P.funcs[f]? = some fn) (hb : fn.body = some c) (hcb : callableB fn = true) (vars : Nat → List Nat) (nt : Nat) (hnt : fn.ntmps = nt)
    {row : Nat × Nat × List SV} {args : List X} {res : X} {rows : Rows} (hn : args.length + 1 ≤ nt) (hres : res.all TV.res = true)
    (h : vCode T O nt vars c ((.row 0, .row row.1 row.2.1 row.2.2) :: argsG 0 (.p (.one (.sr 0)) :: args)) (Kf T fn.results.toList res rows)) : CallM P f row args res rows := by
  subst hnt
  exact fn_okM hT hO hm hf hb hcb vars hn hres h
theorem fn_okB' {P : Program} {T : Tab} {O : Orc} (hT : Tok P T) (hO : OrcOk P O) (hm : P.follows .mixedOrders = true) {f : Nat} {fn : Func} {c : Code} (hf : P.funcs[f]? = some fn) (hb : fn.body = some c) (hcb : callableB fn = true) (vars : Nat → List Nat) (nt : Nat) (hnt : fn.ntmps = nt)
    {bs0 : Boxes} {args : List X} {out : Out} (hn : args.length ≤ nt) (hok : out.ok bs0.length) (h : vCode T O nt vars c (lentL 0 bs0 ++ argsG 0 args) (Kb T fn.results.toList args (wrs c) out)) : CallB P f bs0 args out := by
  subst hnt
  exact fn_okB hT hO hm hf hb hcb vars hn hok h
theorem Kb_n {T rs args W res bs G} (h : vEnd T rs args W (bs.map fun b => !b.2.isEmpty) G fun res' bs' => res' = res ∧ bs'.map (fun b => b.2) = bs.map (fun b => b.2) ∧ bs'.map (fun b => if b.2.isEmpty then 0 else b.1) = bs.map (fun b => if b.2.isEmpty then 0 else b.1)) : Kb T rs args W (.ret res bs) .normal G := h
theorem Kb_r {T rs args W res bs G} (h : vEnd T rs args W (bs.map fun b => !b.2.isEmpty) G fun res' bs' => res' = res ∧ bs'.map (fun b => b.2) = bs.map (fun b => b.2) ∧ bs'.map (fun b => if b.2.isEmpty then 0 else b.1) = bs.map (fun b => if b.2.isEmpty then 0 else b.1)) : Kb T rs args W (.ret res bs) .ret G := h
theorem Kb_p {T rs args W v G} : Kb T rs args W (.pan v) (.panic v) G := rfl
abbrev sl (xs : List SV) : X := .p (.one (.v (.sl 1 xs)))
abbrev sln (e : Nat) (xs : List SV) : X := .p (.one (.v (.sl e xs)))
abbrev i64 (n : Int) : X := .p (.one (.v (.raw (.int .i64 n))))
abbrev bo (b : Bool) : X := .p (.one (.v (.raw (.bool b))))
end Go.Proofs.YtdpflafjfkooeaaDoorG
