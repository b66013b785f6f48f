/- YtdpflafjfkooeaaDoorZ20: a part of the proof, joined of its texts. -/
import Derived.Test.YtdpflafjfkooeaaDoorZ19
namespace Go.Proofs.YtdpflafjfkooeaaDoorG
open Go Go.RowKit Go.Proofs Go.Proofs.YtdpflafjfkooeaaDoorG.Dec
set_option linter.unusedSimpArgs false
set_option linter.unusedVariables false
theorem cut_bs2 {l : List Int} {a b : Int} (h0 : 0 ≤ a) (h1 : a ≤ b) : cutSV 1 (bs l) a b = bs ((l.drop a.toNat).take (b - a).toNat) := by simp [cutSV, bs, List.map_drop, List.map_take]
/-- The number that k + 1 bytes would be. -/
def accV (h : Int) (l : List Int) : Nat → Int
  | 0 => rd l 0 - h
  | k + 1 => accV h l k * 64 + rd l ((k + 1 : Nat) : Int) - 128
def hdV (n : Nat) : Int := if n = 1 then 0 else if n = 2 then 192 else if n = 3 then 224 else 240
theorem accV_val (l : List Int) (n : Nat) (h1 : 1 ≤ n) (h4 : n ≤ 4) : accV (hdV n) l (n - 1) = valR l n := by
  have : n = 1 ∨ n = 2 ∨ n = 3 ∨ n = 4 := by omega
  rcases this with rfl | rfl | rfl | rfl
  · simp [accV, hdV, valR]
  · simp [accV, hdV, valR]
  · simp [accV, hdV, valR]
  · simp [accV, hdV, valR]
theorem rd_at {l : List Int} {a j : Nat} : rd (l.drop a) (j : Int) = l.getD (a + j) 0 := by
  simp [rd, List.getD, List.getElem?_drop]
theorem by_bd {l : List Int} (hb : Bytes l) (i : Nat) : 0 ≤ l.getD i 0 ∧ l.getD i 0 ≤ 255 := by
  by_cases h : i < l.length
  · rw [show l.getD i 0 = l[i] by simp [List.getD, List.getElem?_eq_getElem h]]; exact hb _ (List.getElem_mem h)
  · rw [show l.getD i 0 = 0 by simp [List.getD, List.getElem?_eq_none (Nat.le_of_not_lt h)]]; omega
theorem rd_bd {l : List Int} (hb : Bytes l) (i : Int) : 0 ≤ rd l i ∧ rd l i ≤ 255 := by_bd hb _
theorem accV_bd {l : List Int} (hb : Bytes l) {h : Int} (h0 : 0 ≤ h) (h1 : h ≤ 240) : ∀ k, k ≤ 3 → -100000000 ≤ accV h l k ∧ accV h l k ≤ 100000000 := by
  have b := rd_bd hb
  have b0 := b 0; have b1 := b 1; have b2 := b 2; have b3 := b 3
  intro k hk
  have : k = 0 ∨ k = 1 ∨ k = 2 ∨ k = 3 := by omega
  rcases this with rfl | rfl | rfl | rfl
  all_goals (have e1 : (((0 : Nat) + 1 : Nat) : Int) = 1 := rfl; have e2 : (((1 : Nat) + 1 : Nat) : Int) = 2 := rfl; have e3 : (((2 : Nat) + 1 : Nat) : Int) = 3 := rfl; simp only [accV, e1, e2, e3]; omega)
theorem hdV_bd (n : Nat) : 0 ≤ hdV n ∧ hdV n ≤ 240 := by unfold hdV; (repeat' split) <;> omega
theorem valR_bd {l : List Int} (hb : Bytes l) {n : Nat} (h1 : 1 ≤ n) (h4 : n ≤ 4) : R32 (valR l n) := by
  have := accV_bd hb (hdV_bd n).1 (hdV_bd n).2 (n - 1) (by omega)
  rw [accV_val l n h1 h4] at this
  exact ⟨by omega, by omega⟩
theorem form_F {r : Int} (h : szU r ≠ 0) : Dec.form r = formF r := by
  unfold Dec.form formF
  rcases size_range r with h1 | h1 | h1 | h1 | h1
  · exact absurd h1 h
  · have := size_one h1; rw [if_pos h1, if_pos (by omega)]
  · have := size_two h1; rw [if_neg (by omega), if_pos h1, if_neg (by omega), if_pos (by omega)]
  · have := size_three h1; rw [if_neg (by omega), if_neg (by omega), if_pos h1, if_neg (by omega), if_neg (by omega), if_pos (by omega)]
  · have := size_four h1; rw [if_neg (by omega), if_neg (by omega), if_neg (by omega), if_pos h1, if_neg (by omega), if_neg (by omega), if_neg (by omega)]
theorem forms_F {l : List Int} (h : Gd l) : forms l = encF l := by
  induction l with
  | nil => rfl
  | cons r l ih =>
    rw [forms_cons, ih fun x hx => h x (by simp [hx]), form_F (h r (by simp))]; rfl
theorem gd_scal (l : List Int) : Gd l ↔ scal l := by
  constructor
  · intro h i hi
    rw [show l.getD i 0 = l[i] by simp [List.getD, List.getElem?_eq_getElem hi]]; exact h _ (List.getElem_mem hi)
  · intro h r hr
    obtain ⟨i, hi, rfl⟩ := List.getElem_of_mem hr
    have := h i hi
    rwa [show l.getD i 0 = l[i] by simp [List.getD, List.getElem?_eq_getElem hi]] at this
abbrev decX (l : List Int) : X := .tup [.one (.sr 0), .one (.v (.raw (.int .i64 (dec l).2.1))), .one (.v (.raw (.int .i64 (dec l).2.2)))]
theorem dec_step {l : List Int} {d a : Nat} {acc : List Int} (h : l.length - a ≤ d + 1) (ha : a < l.length) : decR (d + 1) (l.drop a) acc a = if (nx (l.drop a)).2 = 0 then ([], (a : Int), 10) else decR d (l.drop (a + (nx (l.drop a)).2.toNat)) (acc ++ [(nx (l.drop a)).1]) (a + (nx (l.drop a)).2.toNat) := by
  have hne : ¬ l.drop a = [] := fun e => by have := congrArg List.length e; simp at this; omega
  rw [decR, if_neg hne, List.drop_drop]
theorem dec_done {l : List Int} {d a : Nat} {acc : List Int} (ha : l.length ≤ a) : decR d (l.drop a) acc a = (acc, 0, 0) := by
  have : l.drop a = [] := List.drop_eq_nil_of_le ha
  cases d with
  | zero => rfl
  | succ d => rw [decR, if_pos this]
/-- How far a text is read. -/
structure DecI (l : List Int) (s : Nat × List Int) : Prop where
  le : s.1 ≤ l.length
  len : s.2.length ≤ s.1
  rest : decR (l.length - s.1) (l.drop s.1) s.2 s.1 = dec l
theorem DecI.init (l : List Int) : DecI l (0, []) := ⟨by simp, by simp, by simp [dec]⟩
theorem DecI.stop {l s} (h : DecI l s) (hs : s.1 < l.length) (hz : (nx (l.drop s.1)).2 = 0) : dec l = ([], (s.1 : Int), 10) := by
  obtain ⟨d, hd⟩ : ∃ d, l.length - s.1 = d + 1 := ⟨l.length - s.1 - 1, by omega⟩
  have := h.rest
  rw [hd, dec_step (by omega) hs, if_pos hz] at this
  exact this.symm
theorem DecI.last {l s} (h : DecI l s) (hs : l.length ≤ s.1) : dec l = (s.2, 0, 0) := by rw [← h.rest, dec_done hs]
theorem nx_rng {l : List Int} (hz : ¬ (nx l).2 = 0) : 1 ≤ (nx l).2 ∧ (nx l).2 ≤ 4 ∧ (nx l).2 ≤ l.length := (nx_range (l := l)).2 hz
theorem decR_fuel {l : List Int} : ∀ (d e a : Nat) (acc : List Int), l.length - a ≤ d → l.length - a ≤ e → decR d (l.drop a) acc a = decR e (l.drop a) acc a := by
  intro d
  induction d with
  | zero => intro e a acc h1 h2; rw [dec_done (by omega), dec_done (by omega)]
  | succ d ih =>
    intro e a acc h1 h2
    by_cases ha : a < l.length
    · obtain ⟨e, rfl⟩ : ∃ k, e = k + 1 := ⟨e - 1, by omega⟩
      rw [dec_step h1 ha, dec_step h2 ha]
      by_cases hz : (nx (l.drop a)).2 = 0
      · rw [if_pos hz, if_pos hz]
      · rw [if_neg hz, if_neg hz]
        have := nx_rng hz
        exact ih _ _ _ (by omega) (by omega)
    · rw [dec_done (by omega), dec_done (by omega)]
theorem DecI.next {l s} (h : DecI l s) (hs : s.1 < l.length) (hz : ¬ (nx (l.drop s.1)).2 = 0) : DecI l (s.1 + (nx (l.drop s.1)).2.toNat, s.2 ++ [(nx (l.drop s.1)).1]) := by
  have hr := nx_rng hz
  rw [List.length_drop] at hr
  have hl := h.len
  obtain ⟨d, hd⟩ : ∃ d, l.length - s.1 = d + 1 := ⟨l.length - s.1 - 1, by omega⟩
  refine ⟨by simp only []; omega, by simp only [List.length_append, List.length_cons, List.length_nil]; omega, ?_⟩
  have := h.rest
  rw [hd, dec_step (by omega) hs, if_neg hz] at this
  rw [← this]
  exact decR_fuel _ _ _ _ (by omega) (by omega)
theorem nx_bd {l : List Int} (hb : Bytes l) : R32 (nx l).1 ∧ 0 ≤ (nx l).2 ∧ (nx l).2 ≤ 4 := by
  rcases nx_cases l with ⟨n, hn, he⟩ | ⟨_, he⟩
  · have := is_range hn
    rw [he, ← is_val l hb n hn]
    exact ⟨valR_bd hb this.1 this.2.1, by simp only []; omega, by simp only []; omega⟩
  · rw [he]; exact ⟨⟨by simp, by simp⟩, by simp, by simp⟩
end Go.Proofs.YtdpflafjfkooeaaDoorG
/- G18: a function whose body ends in a scope with a label. -/
namespace Go.Proofs.YtdpflafjfkooeaaDoorG
open Go Go.RowKit
set_option linter.unusedVariables false
set_option linter.unusedSimpArgs false
/-- A function whose body ends in a scope with one label. -/
theorem fn_okS2 {P : Program} {T : Tab} {O : Orc} (hT : Tok P T) (hO : OrcOk P O) (hm : P.follows .mixedOrders = true) {f : Nat} {fn : Func} {x c rest : Code} {l : Nat} (hf : P.funcs[f]? = some fn) (hb : fn.body = some (.seq x (.scope c))) (hl : findLabel c l = some rest) (hcb : callableB fn = true) (vars : Nat → List Nat) (nt : Nat) (hnt : fn.ntmps = nt)
    {args : List X} {res : X} {rows : Rows} {fr : Bool} (hn : args.length ≤ nt) (hres : res.all TV.res = true) (hfr : fr = true → res.all TV.rawR = true ∧ ∀ r ∈ rows, ∀ x ∈ r.2.2, x.isRaw = true)
    (h : vCode T O nt vars x (argsG 0 args) (GEx.seq (fun G1 => vCode T O nt vars c G1 (GEx.jmp l (fun G' => vCode T O nt vars rest G' (GEx.nog (Kf T fn.results.toList res rows))) (Kf T fn.results.toList res rows))) (GEx.nog (Kf T fn.results.toList res rows)))) : CallOk P f args res rows fr := by
  subst hnt
  refine ⟨callable_of hf hcb, hres, hfr, fun w vs g hg hlt hgr hall => ?_⟩
  refine callsIn_wide.1 (callsIn_of_wp_marks (F := Fence.wide) (n := 0) hf hb trivial ?_)
  have hvl : vs.length = args.length := hall.1
  have r0 : Rel (look (argsG 0 args)) fn.ntmps { tmps := vs.toArray ++ Array.replicate (fn.ntmps - vs.toArray.size) undef, defers := [] } w g := by
    refine ⟨by simp; omega, rfl, hlt, hgr, fun n => ?_⟩
    cases n with
    | t i =>
      rcases look_argsG_t (args := args) (k := 0) (i := i) with h1 | ⟨x, h1⟩
      · rw [h1]; trivial
      · rw [h1]
        obtain ⟨v, e1, _, e3⟩ := look_argsG hall x h1
        have hi : i < vs.length := (List.getElem?_eq_some_iff.1 e1).1
        have : (vs.toArray ++ Array.replicate (fn.ntmps - vs.toArray.size) undef).getD i undef = v := by
          simp only [Nat.sub_zero] at e1
          simp [Array.getD_eq_getD_getElem?, Array.getElem?_append, hi]
          rw [List.getElem?_eq_getElem hi] at e1
          exact Option.some.inj e1
        show XR w g _ x
        rw [this]
        exact e3
    | row k => rw [look_argsG_other (by simp)]; trivial
    | box k => rw [look_argsG_other (by simp)]; trivial
  have env0 : Env w.heap.size none [] w g := ⟨Nat.le_refl _, fun l hl => by (cases hl), fun d hd => absurd hd (by simp), List.nodup_nil⟩
  have hend : ∀ (e : GEx) (G' : List (Nm × C)) (a' : Act) (w' : World) (g' : Gh) (ds' : List Deferred), (∀ l, e ≠ .goto l) → Kf T fn.results.toList res rows e G' → Rel (look G') fn.ntmps a' w' g' → Fr w w' g.o g'.o → Env w.heap.size none ds' w' g' →
      bodyPostM Fence.wide 0 P fn (fun e w' => ∃ v g', e = .returned v ∧ Fr w w' g.o g'.o ∧ (∀ b, g'.o b ≠ .other → b < w'.heap.size) ∧ XR w' g' v res ∧ ∀ k ty e xs, rows[k]? = some (ty, e, xs) → RowR w' g' k ty e xs) e.ex (shA ds' a') w' := fun e G' a' w' g' ds' hne hq r' f' env' => by
    obtain ⟨he, hv⟩ := hq
    have key := leaves_marks (P := P) (fn := fn) (R := fun e w' => ∃ v g', e = .returned v ∧ Fr w w' g.o g'.o ∧ (∀ b, g'.o b ≠ .other → b < w'.heap.size) ∧ XR w' g' v res ∧ ∀ k ty e xs, rows[k]? = some (ty, e, xs) → RowR w' g' k ty e xs) ds' r' f' env' fun w' g' r' f' => by
      unfold vRes at hv
      split at hv
      · rename_i x hx
        obtain ⟨hm1, hm2, hv⟩ := hv
        split at hv
        · rename_i rows' hrows
          obtain ⟨rfl, rfl⟩ := hv
          obtain ⟨v, h1, h2⟩ := resX_run hT r' hx
          refine ⟨v, h1, v, g'.ren (resM x), rfl, f'.trans (Fr.ren _ _ _), (r'.ren hm1).tags, ren_xr hm1 h2, fun k ty e xs hk => ?_⟩
          obtain ⟨hh, hmem, hrow⟩ := rowsAt_get hrows hm2 k ty e xs hk
          rw [Nat.zero_add] at hmem
          exact ren_rowr hm1 (fwd_mem hm1 hmem) (r'.row hrow)
        · exact hv.elim
      · exact hv.elim
    rcases he with rfl | rfl
    · exact key
    · exact key
  refine wpIn_seq (vCode_ok hT hO hm x h (ro := none) (ds := []) r0 (Fr.refl _ _) env0 fun e G' a' w' g' ds' hq r' f' env' _ => ?_)
  cases e with
  | normal => exact scope_wp hT hO hm hl hq r' f' env' hend
  | goto l' => exact hq.elim
  | exit id => exact hend (.exit id) G' a' w' g' ds' (by simp) hq r' f' env'
  | ret => exact hend .ret G' a' w' g' ds' (by simp) hq r' f' env'
  | panic v => exact hend (.panic v) G' a' w' g' ds' (by simp) hq r' f' env'
end Go.Proofs.YtdpflafjfkooeaaDoorG
namespace Go.Proofs.YtdpflafjfkooeaaDoorG
open Go Go.RowKit Go.Proofs Go.Proofs.YtdpflafjfkooeaaDoorG.Dec
set_option linter.unusedSimpArgs false
set_option linter.unusedVariables false
set_option maxRecDepth 100000 in
theorem and31 {x : Int} (h0 : 0 ≤ x) (h1 : x ≤ 255) : bitI .and .u8 x 31 = x % 32 := by
  have key : ∀ n : Fin 256, bitI .and .u8 (n.val : Int) 31 = (n.val : Int) % 32 := by decide
  obtain ⟨n, rfl⟩ := Int.eq_ofNat_of_zero_le h0
  exact key ⟨n, by omega⟩
set_option maxRecDepth 100000 in
theorem and15 {x : Int} (h0 : 0 ≤ x) (h1 : x ≤ 255) : bitI .and .u8 x 15 = x % 16 := by
  have key : ∀ n : Fin 256, bitI .and .u8 (n.val : Int) 15 = (n.val : Int) % 16 := by decide
  obtain ⟨n, rfl⟩ := Int.eq_ofNat_of_zero_le h0
  exact key ⟨n, by omega⟩
set_option maxRecDepth 100000 in
theorem and7 {x : Int} (h0 : 0 ≤ x) (h1 : x ≤ 255) : bitI .and .u8 x 7 = x % 8 := by
  have key : ∀ n : Fin 256, bitI .and .u8 (n.val : Int) 7 = (n.val : Int) % 8 := by decide
  obtain ⟨n, rfl⟩ := Int.eq_ofNat_of_zero_le h0
  exact key ⟨n, by omega⟩
set_option maxRecDepth 100000 in
theorem and192 {x : Int} (h0 : 0 ≤ x) (h1 : x ≤ 255) : bitI .and .u8 x 192 = 128 ↔ cont x = true := by
  have key : ∀ n : Fin 256, bitI .and .u8 (n.val : Int) 192 = 128 ↔ cont (n.val : Int) = true := by decide +kernel
  obtain ⟨n, rfl⟩ := Int.eq_ofNat_of_zero_le h0
  exact key ⟨n, by omega⟩
theorem or_add {A B : Int} {k : Nat} (h0 : 0 ≤ A) (h1 : 0 ≤ B) (h2 : B < 2 ^ k) (h3 : A * 2 ^ k + B < 9223372036854775808) : bitI .or .i64 (A * 2 ^ k) B = A * 2 ^ k + B := by
  obtain ⟨a, rfl⟩ := Int.eq_ofNat_of_zero_le h0
  obtain ⟨b, rfl⟩ := Int.eq_ofNat_of_zero_le h1
  have hb : b < 2 ^ k := by exact_mod_cast h2
  have e : ((a : Int) * 2 ^ k) = ((a * 2 ^ k : Nat) : Int) := by simp
  have hs : a * 2 ^ k + b < 9223372036854775808 := by rw [e] at h3; omega
  have hor : a * 2 ^ k ||| b = a * 2 ^ k + b := by rw [Nat.mul_comm]; exact (Nat.two_pow_add_eq_or_of_lt hb a).symm
  rw [e]
  show IntKind.i64.wrap ((BitVec.ofInt 64 ((a * 2 ^ k : Nat) : Int) ||| BitVec.ofInt 64 (b : Int)).toNat : Int) = _
  have t1 : (BitVec.ofInt 64 ((a * 2 ^ k : Nat) : Int)).toNat = a * 2 ^ k := by simp [BitVec.toNat_ofInt]; omega
  have t2 : (BitVec.ofInt 64 (b : Int)).toNat = b := by simp [BitVec.toNat_ofInt]; omega
  rw [BitVec.toNat_or, t1, t2, hor, wrap_in (by omega) (by omega)]
  omega
theorem or_add32 {A B : Int} (h0 : 0 ≤ A) (h1 : 0 ≤ B) (h2 : B < 64) (h3 : A * 64 + B < 2147483648) : bitI .or .i32 (A * 64) B = A * 64 + B := by
  obtain ⟨a, rfl⟩ := Int.eq_ofNat_of_zero_le h0
  obtain ⟨b, rfl⟩ := Int.eq_ofNat_of_zero_le h1
  have hor : a * 64 ||| b = a * 64 + b := by have := (Nat.two_pow_add_eq_or_of_lt (i := 6) (b := b) (by omega) a).symm; rw [Nat.mul_comm]; exact this
  have e : ((a : Int) * 64) = ((a * 64 : Nat) : Int) := by omega
  rw [e]
  show IntKind.i32.wrap ((BitVec.ofInt 32 ((a * 64 : Nat) : Int) ||| BitVec.ofInt 32 (b : Int)).toNat : Int) = _
  have t1 : (BitVec.ofInt 32 ((a * 64 : Nat) : Int)).toNat = a * 64 := by simp [BitVec.toNat_ofInt]; omega
  have t2 : (BitVec.ofInt 32 (b : Int)).toNat = b := by simp [BitVec.toNat_ofInt]; omega
  rw [BitVec.toNat_or, t1, t2, hor, wrap32_in (by omega) (by omega)]
  omega
def valP (m : Int) (l : List Int) : Nat → Int
  | 0 => rd l 0 % m
  | k + 1 => valP m l k * 64 + rd l ((k : Int) + 1) % 64
theorem valP_b {m : Int} {l : List Int} {k : Nat} (h : (m = 32 ∧ k ≤ 1) ∨ (m = 16 ∧ k ≤ 2) ∨ (m = 8 ∧ k ≤ 3)) : 0 ≤ valP m l k ∧ valP m l k < 2097152 := by
  have : k = 0 ∨ k = 1 ∨ k = 2 ∨ k = 3 := by omega
  rcases this with rfl | rfl | rfl | rfl <;> simp only [valP] <;> (rcases h with ⟨rfl, _⟩ | ⟨rfl, _⟩ | ⟨rfl, _⟩) <;> omega
theorem td_get {l : List Int} {n k : Nat} (h : k < n) : (List.take n (List.drop 1 l)).getD k 0 = rd l ((k : Int) + 1) := by
  simp only [rd, List.getD, List.getElem?_take, if_pos h, List.getElem?_drop]
  rw [show ((k : Int) + 1).toNat = 1 + k by omega]
theorem nxz0 {l : List Int} (h : (l.length : Int) = 0) : nx l = (0, 0) := by unfold nx; rw [if_pos (by omega)]
theorem nxz1 {l : List Int} (h0 : ¬ (l.length : Int) = 0) (h : rd l 0 < 128) : nx l = (rd l 0, 1) := by unfold nx; rw [if_neg (by omega), if_pos h]
theorem nxz2 {l : List Int} (h0 : ¬ (l.length : Int) = 0) (h1 : ¬ rd l 0 < 128) (h : rd l 0 < 192) : nx l = (0, 0) := by unfold nx; rw [if_neg (by omega), if_neg h1, if_pos h]
theorem nxi2 {l : List Int} (h0 : ¬ (l.length : Int) = 0) (h1 : ¬ rd l 0 < 128) (h2 : ¬ rd l 0 < 192) (h : rd l 0 < 224) : nx l = if 2 ≤ l.length ∧ cont (rd l 1) = true ∧ szU (two l) = 2 then (two l, 2) else (0, 0) := by unfold nx; rw [if_neg (by omega), if_neg h1, if_neg h2, if_pos h]
theorem nxi3 {l : List Int} (h0 : ¬ (l.length : Int) = 0) (h1 : ¬ rd l 0 < 128) (h2 : ¬ rd l 0 < 192) (h3 : ¬ rd l 0 < 224) (h : rd l 0 < 240) : nx l = if 3 ≤ l.length ∧ cont (rd l 1) = true ∧ cont (rd l 2) = true ∧ szU (three l) = 3 then (three l, 3) else (0, 0) := by unfold nx; rw [if_neg (by omega), if_neg h1, if_neg h2, if_neg h3, if_pos h]
theorem nxi4 {l : List Int} (h0 : ¬ (l.length : Int) = 0) (h1 : ¬ rd l 0 < 128) (h2 : ¬ rd l 0 < 192) (h3 : ¬ rd l 0 < 224) (h4 : ¬ rd l 0 < 240) (h : rd l 0 < 248) : nx l = if 4 ≤ l.length ∧ cont (rd l 1) = true ∧ cont (rd l 2) = true ∧ cont (rd l 3) = true ∧ szU (four l) = 4 then (four l, 4) else (0, 0) := by unfold nx; rw [if_neg (by omega), if_neg h1, if_neg h2, if_neg h3, if_neg h4, if_pos h]
theorem nxz5 {l : List Int} (h0 : ¬ (l.length : Int) = 0) (h1 : ¬ rd l 0 < 128) (h2 : ¬ rd l 0 < 192) (h3 : ¬ rd l 0 < 224) (h4 : ¬ rd l 0 < 240) (h : ¬ rd l 0 < 248) : nx l = (0, 0) := by unfold nx; rw [if_neg (by omega), if_neg h1, if_neg h2, if_neg h3, if_neg h4, if_neg h]
theorem tv_bstd {l : List Int} {n j : Nat} (h : j < n) (h2 : 1 + j < l.length) : (List.map TV.v (bs (List.take n (List.drop 1 l)))).getD j .dead = .v (.raw (.int .u8 (rd l ((j : Int) + 1)))) := by
  rw [tv_bs (by simp only [List.length_take, List.length_drop]; omega), td_get h]
theorem v2 (l : List Int) : valP 32 l 1 = two l := by simp [valP, two]
theorem v3 (l : List Int) : valP 16 l 2 = three l := by simp [valP, three]
theorem v4 (l : List Int) : valP 8 l 3 = four l := by simp [valP, four]
theorem step32 {v x : Int} (hv : 0 ≤ v ∧ v < 2097152) (hx : 0 ≤ x ∧ x ≤ 255) : bitI .or .i32 (IntKind.i32.wrap (v * 2 ^ min 6 IntKind.i32.bits)) (IntKind.i32.wrap (bitI .and .u8 x 63)) = v * 64 + x % 64 := by
  have e : (2 : Int) ^ min 6 IntKind.i32.bits = 64 := rfl
  rw [e, and63 hx.1 (by omega), wrap32_in (by omega) (by omega), wrap32_in (by omega) (by omega), or_add32 hv.1 (by omega) (by omega) (by omega)]
theorem at1' {l : List Int} (h : cont (rd l (((0 : Nat) : Int) + 1)) = true) : cont (rd l 1) = true := by simpa using h
theorem at2' {l : List Int} (h : cont (rd l (((1 : Nat) : Int) + 1)) = true) : cont (rd l 2) = true := by simpa using h
theorem at3' {l : List Int} (h : cont (rd l (((2 : Nat) : Int) + 1)) = true) : cont (rd l 3) = true := by simpa using h
theorem seq_n {K : List (Nm × C) → Prop} {Q G} (h : K G) : GEx.seq K Q .normal G := h
set_option maxRecDepth 10000 in
set_option maxHeartbeats 8000000 in
theorem next_ok (l : List Int) (hb : Bytes l) (hl : l.length ≤ 140000000000000) : CallOk Tryd.prog 86 [sl (bs l)] (.tup [.one (.v (.raw (.int .i32 (nx l).1))), .one (.v (.raw (.int .i64 (nx l).2)))]) [] true := by
  have hby := by_bd hb
  have b0 := hby 0
  have e0 : rd l 0 = l.getD 0 0 := rfl
  refine fn_okS2 (l := 0) T_ok (orc_ok _) mixed Tryd.func86 rfl (by rfl) (by kernel_rfl) (lv [[0], [0], [0], [0, 11], [0, 6], [0, 6, 15], [2, 3], [0, 6, 20], [0, 6, 23], [0, 4, 5], [0, 6, 29], [0, 4, 5], [0, 6, 35], [0, 4, 5], [0, 4, 5, 44], [4, 5, 47, 48, 49], [4, 5, 47, 48, 49, 50], [4, 5, 8, 47, 48, 49], [4, 5, 8, 47, 48, 49, 55], [4, 5, 47, 48, 49], [4, 5, 47, 48, 49], [4, 5, 66], [2, 3], [2, 3]]) 69 rfl (by simp) rfl (by simp [X.all, PX.all, TV.rawR, SV.isRaw]) ?_
  simp only [argsG, Nat.zero_add, Nat.reduceAdd]
  repeat' first
    | ((first
        | ((with_reducible refine vR_cons (by decide) ?_); generalize hk : KtR _ _ _ _ _ _ _ _ _ _ = k)
        | ((first
        | with_reducible refine vOps_cons' ?_) <;> generalize hk : Kt _ _ _ _ _ _ _ _ _ = k)) <;> (simp only [Tryd.f86, lv, E1, E2, E5, ET, T, orc_mv, noO_mv, mvB, orc_bx, noO_bx, bxB, orc_sx, noO_sx, sxB, fwd, fwds, inv, mOk, Int.toNat_natCast, Nat.div_one, Nat.mul_one, Int.reduceToNat, SB, List.not_mem_nil, ↓reduceIte, ne_eq, reduceCtorEq, Nat.reduceLT, Nat.reduceEqDiff, Nat.reduceAdd, Nat.reduceMul, Nat.reduceLeDiff, Nat.reduceDiv, Nat.reduceMod, Nat.reduceSub, Nat.reduceBEq, List.length_map, bs_len, rn_len, cut_bs, cut_bsd, Int.sub_zero, rd_at, Nat.zero_add, List.length_take, List.length_drop, Int.toNat_one]; (try simp (disch := omega) only [wrap_in, Int.toNat_natCast, tv_rn, tv_bs, cut_bs2, tv_bstd]); subst hk))
    | with_reducible first | refine Kt_p ?_ | refine Kt_i (by kernel_rfl) ?_ | refine Kr_f (by kernel_rfl) ?_
    | (with_reducible refine Kr_t ?_; simp only [List.length_append, List.length_cons, List.length_nil, Nat.reduceAdd, Nat.reduceSub, List.drop_succ_cons, List.drop_zero])
    | with_reducible first | refine vR_nil ?_ | refine KtR_i (by kernel_rfl) ?_ | refine KrR_i (by kernel_rfl) ?_ | refine vR_skip (by decide) ?_
    | ((with_reducible refine vB_i ?_ ?_) <;> intro _ <;> (first | (exfalso; omega) | (exact absurd trivial ‹¬True›) | (try dsimp only [])))
    | ((with_reducible refine vOps_nil' ?_); refine Kr_i (by kernel_rfl) ?_; generalize hk : plain _ _ = G; simp only [lv, E3, E2, E5, rawX, deadX, SB, List.not_mem_nil, ↓reduceIte, ne_eq, reduceCtorEq, Nat.reduceLT, Nat.reduceEqDiff, Nat.reduceAdd, Nat.reduceMul, Nat.reduceLeDiff, Nat.reduceDiv, Nat.reduceMod, Nat.reduceSub, Nat.reduceBEq, List.length_map, bs_len, rn_len, cut_bs, cut_bsd, Int.sub_zero, rd_at, Nat.zero_add, List.length_take, List.length_drop, Int.toNat_one] at hk; subst hk)
    | with_reducible refine vSeq_i ?_
    | with_reducible first | refine vRegion_i (by kernel_rfl) ?_ | refine Kv_i ?_
    | ((with_reducible apply vStrK_i); (focus (rfl; done)))
    | ((with_reducible refine imp_i ?_); intro _)
    | with_reducible first | refine Ks_n ?_ | refine Ks_r ?_ | refine Ks_e ?_ | refine Kl_e ?_ | refine Kx_n ?_ | refine Kl_r ?_ | refine vRet_i ?_ | refine vSkip_i ?_ | refine vExit_i ?_ | refine vBlock_i ?_ | refine Ks_p ?_ | refine Kl_p ?_ | refine blk_p ?_ | exact Kb_p | refine vGoto_i ?_ | refine vLabel_i ?_ | refine Ks_g ?_ | refine Kl_g ?_ | refine blk_g ?_ | refine jmp_g ?_ | refine jmp_n ?_ | refine jmp_r ?_ | refine nog_n ?_ | refine nog_r ?_ | refine blk_n ?_ | refine blk_r ?_ | refine blk_e ?_ | refine blk_o (by decide) ?_ | refine cp_t ?_ | refine cp_f ?_
    | ((with_reducible apply vCond_x); (focus (simp only [lv, E1, E2, E5, ET, T, orc_mv, noO_mv, mvB, orc_bx, noO_bx, bxB, orc_sx, noO_sx, sxB, fwd, fwds, inv, mOk, Int.toNat_natCast, Nat.div_one, Nat.mul_one, Int.reduceToNat, SB, List.not_mem_nil, ↓reduceIte, ne_eq, reduceCtorEq, Nat.reduceLT, Nat.reduceEqDiff, Nat.reduceAdd, Nat.reduceMul, Nat.reduceLeDiff, Nat.reduceDiv, Nat.reduceMod, Nat.reduceSub, Nat.reduceBEq, List.length_map, bs_len, rn_len, cut_bs, cut_bsd, Int.sub_zero, rd_at, Nat.zero_add, List.length_take, List.length_drop, Int.toNat_one]; with_reducible first | exact Eq.refl (bo true) | exact Eq.refl (bo false))))
    | ((with_reducible refine And.intro ?_ ?_); (focus (try omega)))
  refine seq_n ?_
  repeat' first
    | ((first
        | ((with_reducible refine vR_cons (by decide) ?_); generalize hk : KtR _ _ _ _ _ _ _ _ _ _ = k)
        | ((first
        | with_reducible refine vOps_cons' ?_) <;> generalize hk : Kt _ _ _ _ _ _ _ _ _ = k)) <;> (simp only [Tryd.f86, lv, E1, E2, E5, ET, T, orc_mv, noO_mv, mvB, orc_bx, noO_bx, bxB, orc_sx, noO_sx, sxB, fwd, fwds, inv, mOk, Int.toNat_natCast, Nat.div_one, Nat.mul_one, Int.reduceToNat, SB, List.not_mem_nil, ↓reduceIte, ne_eq, reduceCtorEq, Nat.reduceLT, Nat.reduceEqDiff, Nat.reduceAdd, Nat.reduceMul, Nat.reduceLeDiff, Nat.reduceDiv, Nat.reduceMod, Nat.reduceSub, Nat.reduceBEq, List.length_map, bs_len, rn_len, cut_bs, cut_bsd, Int.sub_zero, rd_at, Nat.zero_add, List.length_take, List.length_drop, Int.toNat_one]; (try simp (disch := omega) only [wrap_in, Int.toNat_natCast, tv_rn, tv_bs, cut_bs2, tv_bstd]); subst hk))
    | with_reducible first | refine Kt_p ?_ | refine Kt_i (by kernel_rfl) ?_ | refine Kr_f (by kernel_rfl) ?_
    | (with_reducible refine Kr_t ?_; simp only [List.length_append, List.length_cons, List.length_nil, Nat.reduceAdd, Nat.reduceSub, List.drop_succ_cons, List.drop_zero])
    | with_reducible first | refine vR_nil ?_ | refine KtR_i (by kernel_rfl) ?_ | refine KrR_i (by kernel_rfl) ?_ | refine vR_skip (by decide) ?_
    | ((with_reducible refine vB_i ?_ ?_) <;> intro _ <;> (first | (exfalso; omega) | (exact absurd trivial ‹¬True›) | (try dsimp only [])))
    | ((with_reducible refine vOps_nil' ?_); refine Kr_i (by kernel_rfl) ?_; generalize hk : plain _ _ = G; simp only [lv, E3, E2, E5, rawX, deadX, SB, List.not_mem_nil, ↓reduceIte, ne_eq, reduceCtorEq, Nat.reduceLT, Nat.reduceEqDiff, Nat.reduceAdd, Nat.reduceMul, Nat.reduceLeDiff, Nat.reduceDiv, Nat.reduceMod, Nat.reduceSub, Nat.reduceBEq, List.length_map, bs_len, rn_len, cut_bs, cut_bsd, Int.sub_zero, rd_at, Nat.zero_add, List.length_take, List.length_drop, Int.toNat_one] at hk; subst hk)
    | with_reducible refine vSeq_i ?_
    | with_reducible first | refine vRegion_i (by kernel_rfl) ?_ | refine Kv_i ?_
    | ((with_reducible apply vStrK_i); (focus (rfl; done)))
    | ((with_reducible refine imp_i ?_); intro _)
    | with_reducible first | refine Ks_n ?_ | refine Ks_r ?_ | refine Ks_e ?_ | refine Kl_e ?_ | refine Kx_n ?_ | refine Kl_r ?_ | refine vRet_i ?_ | refine vSkip_i ?_ | refine vExit_i ?_ | refine vBlock_i ?_ | refine Ks_p ?_ | refine Kl_p ?_ | refine blk_p ?_ | exact Kb_p | refine vGoto_i ?_ | refine vLabel_i ?_ | refine Ks_g ?_ | refine Kl_g ?_ | refine blk_g ?_ | refine jmp_g ?_ | refine jmp_n ?_ | refine jmp_r ?_ | refine nog_n ?_ | refine nog_r ?_ | refine blk_n ?_ | refine blk_r ?_ | refine blk_e ?_ | refine blk_o (by decide) ?_ | refine cp_t ?_ | refine cp_f ?_
    | ((with_reducible apply vCond_x); (focus (simp only [lv, E1, E2, E5, ET, T, orc_mv, noO_mv, mvB, orc_bx, noO_bx, bxB, orc_sx, noO_sx, sxB, fwd, fwds, inv, mOk, Int.toNat_natCast, Nat.div_one, Nat.mul_one, Int.reduceToNat, SB, List.not_mem_nil, ↓reduceIte, ne_eq, reduceCtorEq, Nat.reduceLT, Nat.reduceEqDiff, Nat.reduceAdd, Nat.reduceMul, Nat.reduceLeDiff, Nat.reduceDiv, Nat.reduceMod, Nat.reduceSub, Nat.reduceBEq, List.length_map, bs_len, rn_len, cut_bs, cut_bsd, Int.sub_zero, rd_at, Nat.zero_add, List.length_take, List.length_drop, Int.toNat_one]; with_reducible first | exact Eq.refl (bo true) | exact Eq.refl (bo false))))
    | ((with_reducible refine And.intro ?_ ?_); (focus (try omega)))
  all_goals try omega
  · rename_i c0
    have hz : nx l = (0, 0) := nxz0 c0
    rw [hz]
    refine Kf_r ?_
    simp only [Tryd.f86, E4, E3, E2, E5, rawX, deadX, ET, T, SB, List.not_mem_nil, ↓reduceIte, ne_eq, reduceCtorEq, Nat.reduceLT, Nat.reduceEqDiff, Nat.reduceAdd, Nat.reduceMul, Nat.reduceLeDiff, Nat.reduceDiv, Nat.reduceMod, Nat.reduceSub, Nat.reduceBEq, List.length_map, bs_len, rn_len, cut_bs, cut_bsd, Int.sub_zero, rd_at, Nat.zero_add, List.length_take, List.length_drop, Int.toNat_one]
  · rename_i c0 c1
    have hz : nx l = (rd l 0, 1) := nxz1 c0 c1
    rw [hz]
    refine Kf_r ?_
    simp only [Tryd.f86, E4, E3, E2, E5, rawX, deadX, ET, T, SB, List.not_mem_nil, ↓reduceIte, ne_eq, reduceCtorEq, Nat.reduceLT, Nat.reduceEqDiff, Nat.reduceAdd, Nat.reduceMul, Nat.reduceLeDiff, Nat.reduceDiv, Nat.reduceMod, Nat.reduceSub, Nat.reduceBEq, List.length_map, bs_len, rn_len, cut_bs, cut_bsd, Int.sub_zero, rd_at, Nat.zero_add, List.length_take, List.length_drop, Int.toNat_one, e0]
    rw [wrap32_in (by omega) (by omega)]
  · rename_i c0 c1 c2
    have hz : nx l = (0, 0) := nxz2 c0 c1 c2
    rw [hz]
    refine Kf_r ?_
    simp only [Tryd.f86, E4, E3, E2, E5, rawX, deadX, ET, T, SB, List.not_mem_nil, ↓reduceIte, ne_eq, reduceCtorEq, Nat.reduceLT, Nat.reduceEqDiff, Nat.reduceAdd, Nat.reduceMul, Nat.reduceLeDiff, Nat.reduceDiv, Nat.reduceMod, Nat.reduceSub, Nat.reduceBEq, List.length_map, bs_len, rn_len, cut_bs, cut_bsd, Int.sub_zero, rd_at, Nat.zero_add, List.length_take, List.length_drop, Int.toNat_one]
  · rename_i c0 c1 c2 c3 c4
    have hz : nx l = (0, 0) := by rw [nxi2 c0 c1 c2 c3, if_neg (fun h => by omega)]
    rw [hz]
    refine Kf_r ?_
    simp only [Tryd.f86, E4, E3, E2, E5, rawX, deadX, ET, T, SB, List.not_mem_nil, ↓reduceIte, ne_eq, reduceCtorEq, Nat.reduceLT, Nat.reduceEqDiff, Nat.reduceAdd, Nat.reduceMul, Nat.reduceLeDiff, Nat.reduceDiv, Nat.reduceMod, Nat.reduceSub, Nat.reduceBEq, List.length_map, bs_len, rn_len, cut_bs, cut_bsd, Int.sub_zero, rd_at, Nat.zero_add, List.length_take, List.length_drop, Int.toNat_one]
  · rename_i c0 c1 c2 c3 c4
    refine vLoop_s (fun k : Nat => [(.t 4, .t (i32 (valP 32 l k))), (.t 5, .t (i64 2)), (.t 47, .t (sl (bs (List.take 1 (List.drop 1 l))))), (.t 48, .t (i64 1)), (.t 49, .t (i64 k))]) (fun k => k ≤ 1 ∧ ∀ j : Nat, j < k → cont (rd l ((j : Int) + 1)) = true) (fun k => 1 - k) 0 ⟨by omega, by omega⟩ ?_ ?_
    · simp only [valP, e0]
      rw [and31 b0.1 b0.2, wrap32_in (by omega) (by omega), show min ((2 : Int) - 1).toNat (l.length - 1) = 1 by omega]
      rfl
    rintro k ⟨hk, hc⟩
    have hv := valP_b (m := 32) (l := l) (k := k) (by omega)
    have hsz : R32 (valP 32 l k) := ⟨by omega, by omega⟩
    have hxb := rd_bd hb ((k : Int) + 1)
    repeat' first
      | ((first
          | ((with_reducible refine vR_cons (by decide) ?_); generalize hk : KtR _ _ _ _ _ _ _ _ _ _ = k)
          | ((first
          | with_reducible refine vOps_cons' ?_
          | ((with_reducible apply orc_i); (focus (exact size_ok _ hsz; done)))) <;> generalize hk : Kt _ _ _ _ _ _ _ _ _ = k)) <;> (simp only [Tryd.f86, lv, E1, E2, E5, ET, T, orc_mv, noO_mv, mvB, orc_bx, noO_bx, bxB, orc_sx, noO_sx, sxB, fwd, fwds, inv, mOk, Int.toNat_natCast, Nat.div_one, Nat.mul_one, Int.reduceToNat, SB, List.not_mem_nil, ↓reduceIte, ne_eq, reduceCtorEq, Nat.reduceLT, Nat.reduceEqDiff, Nat.reduceAdd, Nat.reduceMul, Nat.reduceLeDiff, Nat.reduceDiv, Nat.reduceMod, Nat.reduceSub, Nat.reduceBEq, List.length_map, bs_len, rn_len, cut_bs, cut_bsd, Int.sub_zero, rd_at, Nat.zero_add, List.length_take, List.length_drop, Int.toNat_one]; (try simp (disch := omega) only [wrap_in, Int.toNat_natCast, tv_rn, tv_bs, cut_bs2, tv_bstd]); subst hk))
      | with_reducible first | refine Kt_p ?_ | refine Kt_i (by kernel_rfl) ?_ | refine Kr_f (by kernel_rfl) ?_
      | (with_reducible refine Kr_t ?_; simp only [List.length_append, List.length_cons, List.length_nil, Nat.reduceAdd, Nat.reduceSub, List.drop_succ_cons, List.drop_zero])
      | with_reducible first | refine vR_nil ?_ | refine KtR_i (by kernel_rfl) ?_ | refine KrR_i (by kernel_rfl) ?_ | refine vR_skip (by decide) ?_
      | ((with_reducible refine vB_i ?_ ?_) <;> intro _ <;> (first | (exfalso; omega) | (exact absurd trivial ‹¬True›) | (try dsimp only [])))
      | ((with_reducible refine vOps_nil' ?_); refine Kr_i (by kernel_rfl) ?_; generalize hk : plain _ _ = G; simp only [lv, E3, E2, E5, rawX, deadX, SB, List.not_mem_nil, ↓reduceIte, ne_eq, reduceCtorEq, Nat.reduceLT, Nat.reduceEqDiff, Nat.reduceAdd, Nat.reduceMul, Nat.reduceLeDiff, Nat.reduceDiv, Nat.reduceMod, Nat.reduceSub, Nat.reduceBEq, List.length_map, bs_len, rn_len, cut_bs, cut_bsd, Int.sub_zero, rd_at, Nat.zero_add, List.length_take, List.length_drop, Int.toNat_one] at hk; subst hk)
      | with_reducible refine vSeq_i ?_
      | with_reducible first | refine vRegion_i (by kernel_rfl) ?_ | refine Kv_i ?_
      | ((with_reducible apply vStrK_i); (focus (rfl; done)))
      | ((with_reducible refine imp_i ?_); intro _)
      | with_reducible first | refine Ks_n ?_ | refine Ks_r ?_ | refine Ks_e ?_ | refine Kl_e ?_ | refine Kx_n ?_ | refine Kl_r ?_ | refine vRet_i ?_ | refine vSkip_i ?_ | refine vExit_i ?_ | refine vBlock_i ?_ | refine Ks_p ?_ | refine Kl_p ?_ | refine blk_p ?_ | exact Kb_p | refine vGoto_i ?_ | refine vLabel_i ?_ | refine Ks_g ?_ | refine Kl_g ?_ | refine blk_g ?_ | refine jmp_g ?_ | refine jmp_n ?_ | refine jmp_r ?_ | refine nog_n ?_ | refine nog_r ?_ | refine blk_n ?_ | refine blk_r ?_ | refine blk_e ?_ | refine blk_o (by decide) ?_ | refine cp_t ?_ | refine cp_f ?_
      | ((with_reducible apply vCond_x); (focus (simp only [lv, E1, E2, E5, ET, T, orc_mv, noO_mv, mvB, orc_bx, noO_bx, bxB, orc_sx, noO_sx, sxB, fwd, fwds, inv, mOk, Int.toNat_natCast, Nat.div_one, Nat.mul_one, Int.reduceToNat, SB, List.not_mem_nil, ↓reduceIte, ne_eq, reduceCtorEq, Nat.reduceLT, Nat.reduceEqDiff, Nat.reduceAdd, Nat.reduceMul, Nat.reduceLeDiff, Nat.reduceDiv, Nat.reduceMod, Nat.reduceSub, Nat.reduceBEq, List.length_map, bs_len, rn_len, cut_bs, cut_bsd, Int.sub_zero, rd_at, Nat.zero_add, List.length_take, List.length_drop, Int.toNat_one]; with_reducible first | exact Eq.refl (bo true) | exact Eq.refl (bo false))))
      | ((with_reducible refine And.intro ?_ ?_); (focus (try omega)))
    · rename_i k1 k2
      refine Kl_n ⟨k + 1, ⟨by omega, fun j hj => ?_⟩, by omega, ?_⟩
      · rcases Nat.lt_or_eq_of_le (Nat.le_of_lt_succ hj) with h | h
        · exact hc j h
        · subst h; exact (and192 hxb.1 hxb.2).1 k2
      · rw [step32 hv hxb]
        simp only [Int.natCast_add, Int.natCast_one, valP]
    · rename_i k1 k2
      have hnc : ¬ cont (rd l ((k : Int) + 1)) = true := fun h => k2 ((and192 hxb.1 hxb.2).2 h)
      have hz : nx l = (0, 0) := by
        have hk' : k = 0 := by omega
        rw [nxi2 c0 c1 c2 c3, if_neg]
        intro h
        rcases hk' with rfl
        · exact hnc (by simpa using h.2.1)
      rw [hz]
      refine Kf_r ?_
      simp only [Tryd.f86, E4, E3, E2, E5, rawX, deadX, ET, T, SB, List.not_mem_nil, ↓reduceIte, ne_eq, reduceCtorEq, Nat.reduceLT, Nat.reduceEqDiff, Nat.reduceAdd, Nat.reduceMul, Nat.reduceLeDiff, Nat.reduceDiv, Nat.reduceMod, Nat.reduceSub, Nat.reduceBEq, List.length_map, bs_len, rn_len, cut_bs, cut_bsd, Int.sub_zero, rd_at, Nat.zero_add, List.length_take, List.length_drop, Int.toNat_one]
    · rename_i k1 k2
      have hk' : k = 1 := by omega
      subst hk'
      have hz : nx l = (valP 32 l 1, 2) := by
        rw [nxi2 c0 c1 c2 c3, v2, if_pos ⟨by omega, at1' (hc 0 (by omega)), by rw [← v2]; exact k2⟩]
      rw [hz]
      refine Kf_r ?_
      simp only [Tryd.f86, E4, E3, E2, E5, rawX, deadX, ET, T, SB, List.not_mem_nil, ↓reduceIte, ne_eq, reduceCtorEq, Nat.reduceLT, Nat.reduceEqDiff, Nat.reduceAdd, Nat.reduceMul, Nat.reduceLeDiff, Nat.reduceDiv, Nat.reduceMod, Nat.reduceSub, Nat.reduceBEq, List.length_map, bs_len, rn_len, cut_bs, cut_bsd, Int.sub_zero, rd_at, Nat.zero_add, List.length_take, List.length_drop, Int.toNat_one]
    · rename_i k1 k2
      have hk' : k = 1 := by omega
      subst hk'
      have hz : nx l = (0, 0) := by
        rw [nxi2 c0 c1 c2 c3, if_neg fun h => k2 (by rw [v2]; exact h.2.2)]
      rw [hz]
      refine Kf_r ?_
      simp only [Tryd.f86, E4, E3, E2, E5, rawX, deadX, ET, T, SB, List.not_mem_nil, ↓reduceIte, ne_eq, reduceCtorEq, Nat.reduceLT, Nat.reduceEqDiff, Nat.reduceAdd, Nat.reduceMul, Nat.reduceLeDiff, Nat.reduceDiv, Nat.reduceMod, Nat.reduceSub, Nat.reduceBEq, List.length_map, bs_len, rn_len, cut_bs, cut_bsd, Int.sub_zero, rd_at, Nat.zero_add, List.length_take, List.length_drop, Int.toNat_one]
  · rename_i c0 c1 c2 c3 c4 c5
    have hz : nx l = (0, 0) := by rw [nxi3 c0 c1 c2 c3 c4, if_neg (fun h => by omega)]
    rw [hz]
    refine Kf_r ?_
    simp only [Tryd.f86, E4, E3, E2, E5, rawX, deadX, ET, T, SB, List.not_mem_nil, ↓reduceIte, ne_eq, reduceCtorEq, Nat.reduceLT, Nat.reduceEqDiff, Nat.reduceAdd, Nat.reduceMul, Nat.reduceLeDiff, Nat.reduceDiv, Nat.reduceMod, Nat.reduceSub, Nat.reduceBEq, List.length_map, bs_len, rn_len, cut_bs, cut_bsd, Int.sub_zero, rd_at, Nat.zero_add, List.length_take, List.length_drop, Int.toNat_one]
  · rename_i c0 c1 c2 c3 c4 c5
    refine vLoop_s (fun k : Nat => [(.t 4, .t (i32 (valP 16 l k))), (.t 5, .t (i64 3)), (.t 47, .t (sl (bs (List.take 2 (List.drop 1 l))))), (.t 48, .t (i64 2)), (.t 49, .t (i64 k))]) (fun k => k ≤ 2 ∧ ∀ j : Nat, j < k → cont (rd l ((j : Int) + 1)) = true) (fun k => 2 - k) 0 ⟨by omega, by omega⟩ ?_ ?_
    · simp only [valP, e0]
      rw [and15 b0.1 b0.2, wrap32_in (by omega) (by omega), show min ((3 : Int) - 1).toNat (l.length - 1) = 2 by omega]
      rfl
    rintro k ⟨hk, hc⟩
    have hv := valP_b (m := 16) (l := l) (k := k) (by omega)
    have hsz : R32 (valP 16 l k) := ⟨by omega, by omega⟩
    have hxb := rd_bd hb ((k : Int) + 1)
    repeat' first
      | ((first
          | ((with_reducible refine vR_cons (by decide) ?_); generalize hk : KtR _ _ _ _ _ _ _ _ _ _ = k)
          | ((first
          | with_reducible refine vOps_cons' ?_
          | ((with_reducible apply orc_i); (focus (exact size_ok _ hsz; done)))) <;> generalize hk : Kt _ _ _ _ _ _ _ _ _ = k)) <;> (simp only [Tryd.f86, lv, E1, E2, E5, ET, T, orc_mv, noO_mv, mvB, orc_bx, noO_bx, bxB, orc_sx, noO_sx, sxB, fwd, fwds, inv, mOk, Int.toNat_natCast, Nat.div_one, Nat.mul_one, Int.reduceToNat, SB, List.not_mem_nil, ↓reduceIte, ne_eq, reduceCtorEq, Nat.reduceLT, Nat.reduceEqDiff, Nat.reduceAdd, Nat.reduceMul, Nat.reduceLeDiff, Nat.reduceDiv, Nat.reduceMod, Nat.reduceSub, Nat.reduceBEq, List.length_map, bs_len, rn_len, cut_bs, cut_bsd, Int.sub_zero, rd_at, Nat.zero_add, List.length_take, List.length_drop, Int.toNat_one]; (try simp (disch := omega) only [wrap_in, Int.toNat_natCast, tv_rn, tv_bs, cut_bs2, tv_bstd]); subst hk))
      | with_reducible first | refine Kt_p ?_ | refine Kt_i (by kernel_rfl) ?_ | refine Kr_f (by kernel_rfl) ?_
      | (with_reducible refine Kr_t ?_; simp only [List.length_append, List.length_cons, List.length_nil, Nat.reduceAdd, Nat.reduceSub, List.drop_succ_cons, List.drop_zero])
      | with_reducible first | refine vR_nil ?_ | refine KtR_i (by kernel_rfl) ?_ | refine KrR_i (by kernel_rfl) ?_ | refine vR_skip (by decide) ?_
      | ((with_reducible refine vB_i ?_ ?_) <;> intro _ <;> (first | (exfalso; omega) | (exact absurd trivial ‹¬True›) | (try dsimp only [])))
      | ((with_reducible refine vOps_nil' ?_); refine Kr_i (by kernel_rfl) ?_; generalize hk : plain _ _ = G; simp only [lv, E3, E2, E5, rawX, deadX, SB, List.not_mem_nil, ↓reduceIte, ne_eq, reduceCtorEq, Nat.reduceLT, Nat.reduceEqDiff, Nat.reduceAdd, Nat.reduceMul, Nat.reduceLeDiff, Nat.reduceDiv, Nat.reduceMod, Nat.reduceSub, Nat.reduceBEq, List.length_map, bs_len, rn_len, cut_bs, cut_bsd, Int.sub_zero, rd_at, Nat.zero_add, List.length_take, List.length_drop, Int.toNat_one] at hk; subst hk)
      | with_reducible refine vSeq_i ?_
      | with_reducible first | refine vRegion_i (by kernel_rfl) ?_ | refine Kv_i ?_
      | ((with_reducible apply vStrK_i); (focus (rfl; done)))
      | ((with_reducible refine imp_i ?_); intro _)
      | with_reducible first | refine Ks_n ?_ | refine Ks_r ?_ | refine Ks_e ?_ | refine Kl_e ?_ | refine Kx_n ?_ | refine Kl_r ?_ | refine vRet_i ?_ | refine vSkip_i ?_ | refine vExit_i ?_ | refine vBlock_i ?_ | refine Ks_p ?_ | refine Kl_p ?_ | refine blk_p ?_ | exact Kb_p | refine vGoto_i ?_ | refine vLabel_i ?_ | refine Ks_g ?_ | refine Kl_g ?_ | refine blk_g ?_ | refine jmp_g ?_ | refine jmp_n ?_ | refine jmp_r ?_ | refine nog_n ?_ | refine nog_r ?_ | refine blk_n ?_ | refine blk_r ?_ | refine blk_e ?_ | refine blk_o (by decide) ?_ | refine cp_t ?_ | refine cp_f ?_
      | ((with_reducible apply vCond_x); (focus (simp only [lv, E1, E2, E5, ET, T, orc_mv, noO_mv, mvB, orc_bx, noO_bx, bxB, orc_sx, noO_sx, sxB, fwd, fwds, inv, mOk, Int.toNat_natCast, Nat.div_one, Nat.mul_one, Int.reduceToNat, SB, List.not_mem_nil, ↓reduceIte, ne_eq, reduceCtorEq, Nat.reduceLT, Nat.reduceEqDiff, Nat.reduceAdd, Nat.reduceMul, Nat.reduceLeDiff, Nat.reduceDiv, Nat.reduceMod, Nat.reduceSub, Nat.reduceBEq, List.length_map, bs_len, rn_len, cut_bs, cut_bsd, Int.sub_zero, rd_at, Nat.zero_add, List.length_take, List.length_drop, Int.toNat_one]; with_reducible first | exact Eq.refl (bo true) | exact Eq.refl (bo false))))
      | ((with_reducible refine And.intro ?_ ?_); (focus (try omega)))
    · rename_i k1 k2
      refine Kl_n ⟨k + 1, ⟨by omega, fun j hj => ?_⟩, by omega, ?_⟩
      · rcases Nat.lt_or_eq_of_le (Nat.le_of_lt_succ hj) with h | h
        · exact hc j h
        · subst h; exact (and192 hxb.1 hxb.2).1 k2
      · rw [step32 hv hxb]
        simp only [Int.natCast_add, Int.natCast_one, valP]
    · rename_i k1 k2
      have hnc : ¬ cont (rd l ((k : Int) + 1)) = true := fun h => k2 ((and192 hxb.1 hxb.2).2 h)
      have hz : nx l = (0, 0) := by
        have hk' : k = 0 ∨ k = 1 := by omega
        rw [nxi3 c0 c1 c2 c3 c4, if_neg]
        intro h
        rcases hk' with rfl | rfl
        · exact hnc (by simpa using h.2.1)
        · exact hnc (by simpa using h.2.2.1)
      rw [hz]
      refine Kf_r ?_
      simp only [Tryd.f86, E4, E3, E2, E5, rawX, deadX, ET, T, SB, List.not_mem_nil, ↓reduceIte, ne_eq, reduceCtorEq, Nat.reduceLT, Nat.reduceEqDiff, Nat.reduceAdd, Nat.reduceMul, Nat.reduceLeDiff, Nat.reduceDiv, Nat.reduceMod, Nat.reduceSub, Nat.reduceBEq, List.length_map, bs_len, rn_len, cut_bs, cut_bsd, Int.sub_zero, rd_at, Nat.zero_add, List.length_take, List.length_drop, Int.toNat_one]
    · rename_i k1 k2
      have hk' : k = 2 := by omega
      subst hk'
      have hz : nx l = (valP 16 l 2, 3) := by
        rw [nxi3 c0 c1 c2 c3 c4, v3, if_pos ⟨by omega, at1' (hc 0 (by omega)), at2' (hc 1 (by omega)), by rw [← v3]; exact k2⟩]
      rw [hz]
      refine Kf_r ?_
      simp only [Tryd.f86, E4, E3, E2, E5, rawX, deadX, ET, T, SB, List.not_mem_nil, ↓reduceIte, ne_eq, reduceCtorEq, Nat.reduceLT, Nat.reduceEqDiff, Nat.reduceAdd, Nat.reduceMul, Nat.reduceLeDiff, Nat.reduceDiv, Nat.reduceMod, Nat.reduceSub, Nat.reduceBEq, List.length_map, bs_len, rn_len, cut_bs, cut_bsd, Int.sub_zero, rd_at, Nat.zero_add, List.length_take, List.length_drop, Int.toNat_one]
    · rename_i k1 k2
      have hk' : k = 2 := by omega
      subst hk'
      have hz : nx l = (0, 0) := by
        rw [nxi3 c0 c1 c2 c3 c4, if_neg fun h => k2 (by rw [v3]; exact h.2.2.2)]
      rw [hz]
      refine Kf_r ?_
      simp only [Tryd.f86, E4, E3, E2, E5, rawX, deadX, ET, T, SB, List.not_mem_nil, ↓reduceIte, ne_eq, reduceCtorEq, Nat.reduceLT, Nat.reduceEqDiff, Nat.reduceAdd, Nat.reduceMul, Nat.reduceLeDiff, Nat.reduceDiv, Nat.reduceMod, Nat.reduceSub, Nat.reduceBEq, List.length_map, bs_len, rn_len, cut_bs, cut_bsd, Int.sub_zero, rd_at, Nat.zero_add, List.length_take, List.length_drop, Int.toNat_one]
  · rename_i c0 c1 c2 c3 c4 c5 c6
    have hz : nx l = (0, 0) := by rw [nxi4 c0 c1 c2 c3 c4 c5, if_neg (fun h => by omega)]
    rw [hz]
    refine Kf_r ?_
    simp only [Tryd.f86, E4, E3, E2, E5, rawX, deadX, ET, T, SB, List.not_mem_nil, ↓reduceIte, ne_eq, reduceCtorEq, Nat.reduceLT, Nat.reduceEqDiff, Nat.reduceAdd, Nat.reduceMul, Nat.reduceLeDiff, Nat.reduceDiv, Nat.reduceMod, Nat.reduceSub, Nat.reduceBEq, List.length_map, bs_len, rn_len, cut_bs, cut_bsd, Int.sub_zero, rd_at, Nat.zero_add, List.length_take, List.length_drop, Int.toNat_one]
  · rename_i c0 c1 c2 c3 c4 c5 c6
    refine vLoop_s (fun k : Nat => [(.t 4, .t (i32 (valP 8 l k))), (.t 5, .t (i64 4)), (.t 47, .t (sl (bs (List.take 3 (List.drop 1 l))))), (.t 48, .t (i64 3)), (.t 49, .t (i64 k))]) (fun k => k ≤ 3 ∧ ∀ j : Nat, j < k → cont (rd l ((j : Int) + 1)) = true) (fun k => 3 - k) 0 ⟨by omega, by omega⟩ ?_ ?_
    · simp only [valP, e0]
      rw [and7 b0.1 b0.2, wrap32_in (by omega) (by omega), show min ((4 : Int) - 1).toNat (l.length - 1) = 3 by omega]
      rfl
    rintro k ⟨hk, hc⟩
    have hv := valP_b (m := 8) (l := l) (k := k) (by omega)
    have hsz : R32 (valP 8 l k) := ⟨by omega, by omega⟩
    have hxb := rd_bd hb ((k : Int) + 1)
    repeat' first
      | ((first
          | ((with_reducible refine vR_cons (by decide) ?_); generalize hk : KtR _ _ _ _ _ _ _ _ _ _ = k)
          | ((first
          | with_reducible refine vOps_cons' ?_
          | ((with_reducible apply orc_i); (focus (exact size_ok _ hsz; done)))) <;> generalize hk : Kt _ _ _ _ _ _ _ _ _ = k)) <;> (simp only [Tryd.f86, lv, E1, E2, E5, ET, T, orc_mv, noO_mv, mvB, orc_bx, noO_bx, bxB, orc_sx, noO_sx, sxB, fwd, fwds, inv, mOk, Int.toNat_natCast, Nat.div_one, Nat.mul_one, Int.reduceToNat, SB, List.not_mem_nil, ↓reduceIte, ne_eq, reduceCtorEq, Nat.reduceLT, Nat.reduceEqDiff, Nat.reduceAdd, Nat.reduceMul, Nat.reduceLeDiff, Nat.reduceDiv, Nat.reduceMod, Nat.reduceSub, Nat.reduceBEq, List.length_map, bs_len, rn_len, cut_bs, cut_bsd, Int.sub_zero, rd_at, Nat.zero_add, List.length_take, List.length_drop, Int.toNat_one]; (try simp (disch := omega) only [wrap_in, Int.toNat_natCast, tv_rn, tv_bs, cut_bs2, tv_bstd]); subst hk))
      | with_reducible first | refine Kt_p ?_ | refine Kt_i (by kernel_rfl) ?_ | refine Kr_f (by kernel_rfl) ?_
      | (with_reducible refine Kr_t ?_; simp only [List.length_append, List.length_cons, List.length_nil, Nat.reduceAdd, Nat.reduceSub, List.drop_succ_cons, List.drop_zero])
      | with_reducible first | refine vR_nil ?_ | refine KtR_i (by kernel_rfl) ?_ | refine KrR_i (by kernel_rfl) ?_ | refine vR_skip (by decide) ?_
      | ((with_reducible refine vB_i ?_ ?_) <;> intro _ <;> (first | (exfalso; omega) | (exact absurd trivial ‹¬True›) | (try dsimp only [])))
      | ((with_reducible refine vOps_nil' ?_); refine Kr_i (by kernel_rfl) ?_; generalize hk : plain _ _ = G; simp only [lv, E3, E2, E5, rawX, deadX, SB, List.not_mem_nil, ↓reduceIte, ne_eq, reduceCtorEq, Nat.reduceLT, Nat.reduceEqDiff, Nat.reduceAdd, Nat.reduceMul, Nat.reduceLeDiff, Nat.reduceDiv, Nat.reduceMod, Nat.reduceSub, Nat.reduceBEq, List.length_map, bs_len, rn_len, cut_bs, cut_bsd, Int.sub_zero, rd_at, Nat.zero_add, List.length_take, List.length_drop, Int.toNat_one] at hk; subst hk)
      | with_reducible refine vSeq_i ?_
      | with_reducible first | refine vRegion_i (by kernel_rfl) ?_ | refine Kv_i ?_
      | ((with_reducible apply vStrK_i); (focus (rfl; done)))
      | ((with_reducible refine imp_i ?_); intro _)
      | with_reducible first | refine Ks_n ?_ | refine Ks_r ?_ | refine Ks_e ?_ | refine Kl_e ?_ | refine Kx_n ?_ | refine Kl_r ?_ | refine vRet_i ?_ | refine vSkip_i ?_ | refine vExit_i ?_ | refine vBlock_i ?_ | refine Ks_p ?_ | refine Kl_p ?_ | refine blk_p ?_ | exact Kb_p | refine vGoto_i ?_ | refine vLabel_i ?_ | refine Ks_g ?_ | refine Kl_g ?_ | refine blk_g ?_ | refine jmp_g ?_ | refine jmp_n ?_ | refine jmp_r ?_ | refine nog_n ?_ | refine nog_r ?_ | refine blk_n ?_ | refine blk_r ?_ | refine blk_e ?_ | refine blk_o (by decide) ?_ | refine cp_t ?_ | refine cp_f ?_
      | ((with_reducible apply vCond_x); (focus (simp only [lv, E1, E2, E5, ET, T, orc_mv, noO_mv, mvB, orc_bx, noO_bx, bxB, orc_sx, noO_sx, sxB, fwd, fwds, inv, mOk, Int.toNat_natCast, Nat.div_one, Nat.mul_one, Int.reduceToNat, SB, List.not_mem_nil, ↓reduceIte, ne_eq, reduceCtorEq, Nat.reduceLT, Nat.reduceEqDiff, Nat.reduceAdd, Nat.reduceMul, Nat.reduceLeDiff, Nat.reduceDiv, Nat.reduceMod, Nat.reduceSub, Nat.reduceBEq, List.length_map, bs_len, rn_len, cut_bs, cut_bsd, Int.sub_zero, rd_at, Nat.zero_add, List.length_take, List.length_drop, Int.toNat_one]; with_reducible first | exact Eq.refl (bo true) | exact Eq.refl (bo false))))
      | ((with_reducible refine And.intro ?_ ?_); (focus (try omega)))
    · rename_i k1 k2
      refine Kl_n ⟨k + 1, ⟨by omega, fun j hj => ?_⟩, by omega, ?_⟩
      · rcases Nat.lt_or_eq_of_le (Nat.le_of_lt_succ hj) with h | h
        · exact hc j h
        · subst h; exact (and192 hxb.1 hxb.2).1 k2
      · rw [step32 hv hxb]
        simp only [Int.natCast_add, Int.natCast_one, valP]
    · rename_i k1 k2
      have hnc : ¬ cont (rd l ((k : Int) + 1)) = true := fun h => k2 ((and192 hxb.1 hxb.2).2 h)
      have hz : nx l = (0, 0) := by
        have hk' : k = 0 ∨ k = 1 ∨ k = 2 := by omega
        rw [nxi4 c0 c1 c2 c3 c4 c5, if_neg]
        intro h
        rcases hk' with rfl | rfl | rfl
        · exact hnc (by simpa using h.2.1)
        · exact hnc (by simpa using h.2.2.1)
        · exact hnc (by simpa using h.2.2.2.1)
      rw [hz]
      refine Kf_r ?_
      simp only [Tryd.f86, E4, E3, E2, E5, rawX, deadX, ET, T, SB, List.not_mem_nil, ↓reduceIte, ne_eq, reduceCtorEq, Nat.reduceLT, Nat.reduceEqDiff, Nat.reduceAdd, Nat.reduceMul, Nat.reduceLeDiff, Nat.reduceDiv, Nat.reduceMod, Nat.reduceSub, Nat.reduceBEq, List.length_map, bs_len, rn_len, cut_bs, cut_bsd, Int.sub_zero, rd_at, Nat.zero_add, List.length_take, List.length_drop, Int.toNat_one]
    · rename_i k1 k2
      have hk' : k = 3 := by omega
      subst hk'
      have hz : nx l = (valP 8 l 3, 4) := by
        rw [nxi4 c0 c1 c2 c3 c4 c5, v4, if_pos ⟨by omega, at1' (hc 0 (by omega)), at2' (hc 1 (by omega)), at3' (hc 2 (by omega)), by rw [← v4]; exact k2⟩]
      rw [hz]
      refine Kf_r ?_
      simp only [Tryd.f86, E4, E3, E2, E5, rawX, deadX, ET, T, SB, List.not_mem_nil, ↓reduceIte, ne_eq, reduceCtorEq, Nat.reduceLT, Nat.reduceEqDiff, Nat.reduceAdd, Nat.reduceMul, Nat.reduceLeDiff, Nat.reduceDiv, Nat.reduceMod, Nat.reduceSub, Nat.reduceBEq, List.length_map, bs_len, rn_len, cut_bs, cut_bsd, Int.sub_zero, rd_at, Nat.zero_add, List.length_take, List.length_drop, Int.toNat_one]
    · rename_i k1 k2
      have hk' : k = 3 := by omega
      subst hk'
      have hz : nx l = (0, 0) := by
        rw [nxi4 c0 c1 c2 c3 c4 c5, if_neg fun h => k2 (by rw [v4]; exact h.2.2.2.2)]
      rw [hz]
      refine Kf_r ?_
      simp only [Tryd.f86, E4, E3, E2, E5, rawX, deadX, ET, T, SB, List.not_mem_nil, ↓reduceIte, ne_eq, reduceCtorEq, Nat.reduceLT, Nat.reduceEqDiff, Nat.reduceAdd, Nat.reduceMul, Nat.reduceLeDiff, Nat.reduceDiv, Nat.reduceMod, Nat.reduceSub, Nat.reduceBEq, List.length_map, bs_len, rn_len, cut_bs, cut_bsd, Int.sub_zero, rd_at, Nat.zero_add, List.length_take, List.length_drop, Int.toNat_one]
  · rename_i c0 c1 c2 c3 c4 c5
    have hz : nx l = (0, 0) := nxz5 c0 c1 c2 c3 c4 c5
    rw [hz]
    refine Kf_r ?_
    simp only [Tryd.f86, E4, E3, E2, E5, rawX, deadX, ET, T, SB, List.not_mem_nil, ↓reduceIte, ne_eq, reduceCtorEq, Nat.reduceLT, Nat.reduceEqDiff, Nat.reduceAdd, Nat.reduceMul, Nat.reduceLeDiff, Nat.reduceDiv, Nat.reduceMod, Nat.reduceSub, Nat.reduceBEq, List.length_map, bs_len, rn_len, cut_bs, cut_bsd, Int.sub_zero, rd_at, Nat.zero_add, List.length_take, List.length_drop, Int.toNat_one]
end Go.Proofs.YtdpflafjfkooeaaDoorG
namespace Go.Proofs.YtdpflafjfkooeaaDoorG
open Go Go.RowKit Go.Proofs Go.Proofs.YtdpflafjfkooeaaDoorG.Dec
set_option linter.unusedSimpArgs false
set_option linter.unusedVariables false
set_option maxRecDepth 10000 in
set_option maxHeartbeats 4000000 in
theorem decode_ok (l : List Int) (hb : Bytes l) (hl : l.length ≤ 30000000000000) : CallOk Tryd.prog 82 [sl (bs l)] (decX l) [(21, 1, rn (dec l).1)] true := by
  refine fn_ok' T_ok (orc_ok _) mixed Tryd.func82 rfl (by kernel_rfl) (lv [[0], [0, 5], [0, 5, 6], [0, 5, 6, 12], [0, 5, 6, 7, 8], [0, 5, 6, 7, 8, 21], [2, 3, 4], [0, 5, 6, 8], [0, 5, 6], [2, 3, 4]]) 31 rfl (by simp) rfl (fun _ => ⟨rfl, fun r hr => by simp at hr; subst hr; exact rn_raw⟩) ?_
  simp only [argsG, Nat.zero_add, Nat.reduceAdd]
  repeat' first
    | ((first
        | ((with_reducible refine vR_cons (by decide) ?_); generalize hk : KtR _ _ _ _ _ _ _ _ _ _ = k)
        | ((first
        | with_reducible refine vOps_cons' ?_) <;> generalize hk : Kt _ _ _ _ _ _ _ _ _ = k)) <;> (simp only [Tryd.f82, lv, E1, E2, E5, ET, T, orc_mv, noO_mv, mvB, orc_bx, noO_bx, bxB, orc_sx, noO_sx, sxB, fwd, fwds, inv, mOk, Int.toNat_natCast, Nat.div_one, Nat.mul_one, Int.reduceToNat, SB, List.not_mem_nil, ↓reduceIte, ne_eq, reduceCtorEq, Nat.reduceLT, Nat.reduceEqDiff, Nat.reduceAdd, Nat.reduceMul, Nat.reduceLeDiff, Nat.reduceDiv, Nat.reduceMod, Nat.reduceSub, Nat.reduceBEq, List.length_map, bs_len, rn_len, cut_bs, cut_bsd, Int.sub_zero, rd_at, Nat.zero_add, Int.toNat_natCast]; (try simp (disch := omega) only [wrap_in, Int.toNat_natCast, tv_rn, tv_bs, cut_bs2]); subst hk))
    | with_reducible first | refine Kt_p ?_ | refine Kt_i (by kernel_rfl) ?_ | refine Kr_f (by kernel_rfl) ?_
    | (with_reducible refine Kr_t ?_; simp only [List.length_append, List.length_cons, List.length_nil, Nat.reduceAdd, Nat.reduceSub, List.drop_succ_cons, List.drop_zero])
    | with_reducible first | refine vR_nil ?_ | refine KtR_i (by kernel_rfl) ?_ | refine KrR_i (by kernel_rfl) ?_ | refine vR_skip (by decide) ?_
    | ((with_reducible refine vB_i ?_ ?_) <;> intro _ <;> (first | (exfalso; omega) | (exact absurd trivial ‹¬True›) | (try dsimp only [])))
    | ((with_reducible refine vOps_nil' ?_); refine Kr_i (by kernel_rfl) ?_; generalize hk : plain _ _ = G; simp only [lv, E3, E2, E5, rawX, deadX, SB, List.not_mem_nil, ↓reduceIte, ne_eq, reduceCtorEq, Nat.reduceLT, Nat.reduceEqDiff, Nat.reduceAdd, Nat.reduceMul, Nat.reduceLeDiff, Nat.reduceDiv, Nat.reduceMod, Nat.reduceSub, Nat.reduceBEq, List.length_map, bs_len, rn_len, cut_bs, cut_bsd, Int.sub_zero, rd_at, Nat.zero_add, Int.toNat_natCast] at hk; subst hk)
    | with_reducible refine vSeq_i ?_
    | with_reducible first | refine vRegion_i (by kernel_rfl) ?_ | refine Kv_i ?_
    | ((with_reducible apply vStrK_i); (focus (rfl; done)))
    | ((with_reducible refine imp_i ?_); intro _)
    | with_reducible first | refine Ks_n ?_ | refine Ks_r ?_ | refine Ks_e ?_ | refine Kl_e ?_ | refine Kx_n ?_ | refine Kl_r ?_ | refine vRet_i ?_ | refine vSkip_i ?_ | refine vExit_i ?_ | refine vBlock_i ?_ | refine Ks_p ?_ | refine Kl_p ?_ | refine blk_p ?_ | exact Kb_p | refine vGoto_i ?_ | refine vLabel_i ?_ | refine Ks_g ?_ | refine Kl_g ?_ | refine blk_g ?_ | refine jmp_g ?_ | refine jmp_n ?_ | refine jmp_r ?_ | refine nog_n ?_ | refine nog_r ?_ | refine blk_n ?_ | refine blk_r ?_ | refine blk_e ?_ | refine blk_o (by decide) ?_ | refine cp_t ?_ | refine cp_f ?_
    | ((with_reducible apply vCond_x); (focus (simp only [lv, E1, E2, E5, ET, T, orc_mv, noO_mv, mvB, orc_bx, noO_bx, bxB, orc_sx, noO_sx, sxB, fwd, fwds, inv, mOk, Int.toNat_natCast, Nat.div_one, Nat.mul_one, Int.reduceToNat, SB, List.not_mem_nil, ↓reduceIte, ne_eq, reduceCtorEq, Nat.reduceLT, Nat.reduceEqDiff, Nat.reduceAdd, Nat.reduceMul, Nat.reduceLeDiff, Nat.reduceDiv, Nat.reduceMod, Nat.reduceSub, Nat.reduceBEq, List.length_map, bs_len, rn_len, cut_bs, cut_bsd, Int.sub_zero, rd_at, Nat.zero_add, Int.toNat_natCast]; with_reducible first | exact Eq.refl (bo true) | exact Eq.refl (bo false))))
    | ((with_reducible refine And.intro ?_ ?_); (focus (try omega)))
  all_goals try omega
  refine vLoop_s (fun s : Nat × List Int => [(.t 0, .t (sl (bs l))), (.t 5, .t (.p (.one (.sr 0)))), (.t 6, .t (i64 s.1)), (.row 0, .row 21 1 (rn s.2))]) (DecI l) (fun s => l.length - s.1) (0, []) (.init l) rfl ?_
  rintro ⟨a, acc⟩ hI
  have h1 : a ≤ l.length := hI.le
  have h2 : acc.length ≤ a := hI.len
  have hbd := nx_bd (hb.drop a)
  have hrg := fun h => nx_rng (l := l.drop a) h
  rw [List.length_drop] at hrg
  simp only [] at *
  repeat' first
    | ((first
        | ((with_reducible refine vR_cons (by decide) ?_); generalize hk : KtR _ _ _ _ _ _ _ _ _ _ = k)
        | ((first
        | with_reducible refine vOps_cons' ?_
        | ((with_reducible apply orc_i); (focus (exact next_ok (l.drop a) (hb.drop a) (by rw [List.length_drop]; omega); done)))) <;> generalize hk : Kt _ _ _ _ _ _ _ _ _ = k)) <;> (simp only [Tryd.f82, lv, E1, E2, E5, ET, T, orc_mv, noO_mv, mvB, orc_bx, noO_bx, bxB, orc_sx, noO_sx, sxB, fwd, fwds, inv, mOk, Int.toNat_natCast, Nat.div_one, Nat.mul_one, Int.reduceToNat, SB, List.not_mem_nil, ↓reduceIte, ne_eq, reduceCtorEq, Nat.reduceLT, Nat.reduceEqDiff, Nat.reduceAdd, Nat.reduceMul, Nat.reduceLeDiff, Nat.reduceDiv, Nat.reduceMod, Nat.reduceSub, Nat.reduceBEq, List.length_map, bs_len, rn_len, cut_bs, cut_bsd, Int.sub_zero, rd_at, Nat.zero_add, Int.toNat_natCast]; (try simp (disch := omega) only [wrap_in, Int.toNat_natCast, tv_rn, tv_bs, cut_bs2]); subst hk))
    | with_reducible first | refine Kt_p ?_ | refine Kt_i (by kernel_rfl) ?_ | refine Kr_f (by kernel_rfl) ?_
    | (with_reducible refine Kr_t ?_; simp only [List.length_append, List.length_cons, List.length_nil, Nat.reduceAdd, Nat.reduceSub, List.drop_succ_cons, List.drop_zero])
    | with_reducible first | refine vR_nil ?_ | refine KtR_i (by kernel_rfl) ?_ | refine KrR_i (by kernel_rfl) ?_ | refine vR_skip (by decide) ?_
    | ((with_reducible refine vB_i ?_ ?_) <;> intro _ <;> (first | (exfalso; omega) | (exact absurd trivial ‹¬True›) | (try dsimp only [])))
    | ((with_reducible refine vOps_nil' ?_); refine Kr_i (by kernel_rfl) ?_; generalize hk : plain _ _ = G; simp only [lv, E3, E2, E5, rawX, deadX, SB, List.not_mem_nil, ↓reduceIte, ne_eq, reduceCtorEq, Nat.reduceLT, Nat.reduceEqDiff, Nat.reduceAdd, Nat.reduceMul, Nat.reduceLeDiff, Nat.reduceDiv, Nat.reduceMod, Nat.reduceSub, Nat.reduceBEq, List.length_map, bs_len, rn_len, cut_bs, cut_bsd, Int.sub_zero, rd_at, Nat.zero_add, Int.toNat_natCast] at hk; subst hk)
    | with_reducible refine vSeq_i ?_
    | with_reducible first | refine vRegion_i (by kernel_rfl) ?_ | refine Kv_i ?_
    | ((with_reducible apply vStrK_i); (focus (rfl; done)))
    | ((with_reducible refine imp_i ?_); intro _)
    | with_reducible first | refine Ks_n ?_ | refine Ks_r ?_ | refine Ks_e ?_ | refine Kl_e ?_ | refine Kx_n ?_ | refine Kl_r ?_ | refine vRet_i ?_ | refine vSkip_i ?_ | refine vExit_i ?_ | refine vBlock_i ?_ | refine Ks_p ?_ | refine Kl_p ?_ | refine blk_p ?_ | exact Kb_p | refine vGoto_i ?_ | refine vLabel_i ?_ | refine Ks_g ?_ | refine Kl_g ?_ | refine blk_g ?_ | refine jmp_g ?_ | refine jmp_n ?_ | refine jmp_r ?_ | refine nog_n ?_ | refine nog_r ?_ | refine blk_n ?_ | refine blk_r ?_ | refine blk_e ?_ | refine blk_o (by decide) ?_ | refine cp_t ?_ | refine cp_f ?_
    | ((with_reducible apply vCond_x); (focus (simp only [lv, E1, E2, E5, ET, T, orc_mv, noO_mv, mvB, orc_bx, noO_bx, bxB, orc_sx, noO_sx, sxB, fwd, fwds, inv, mOk, Int.toNat_natCast, Nat.div_one, Nat.mul_one, Int.reduceToNat, SB, List.not_mem_nil, ↓reduceIte, ne_eq, reduceCtorEq, Nat.reduceLT, Nat.reduceEqDiff, Nat.reduceAdd, Nat.reduceMul, Nat.reduceLeDiff, Nat.reduceDiv, Nat.reduceMod, Nat.reduceSub, Nat.reduceBEq, List.length_map, bs_len, rn_len, cut_bs, cut_bsd, Int.sub_zero, rd_at, Nat.zero_add, Int.toNat_natCast]; with_reducible first | exact Eq.refl (bo true) | exact Eq.refl (bo false))))
    | ((with_reducible refine And.intro ?_ ?_); (focus (try omega)))
  · rename_i k1 hz
    have e := hI.stop (by simp only []; omega) hz
    refine Kf_r ?_
    simp only [Tryd.f82, E4, E3, E2, E5, rawX, deadX, ET, T, SB, List.not_mem_nil, ↓reduceIte, ne_eq, reduceCtorEq, Nat.reduceLT, Nat.reduceEqDiff, Nat.reduceAdd, Nat.reduceMul, Nat.reduceLeDiff, Nat.reduceDiv, Nat.reduceMod, Nat.reduceSub, Nat.reduceBEq, List.length_map, bs_len, rn_len, cut_bs, cut_bsd, Int.sub_zero, rd_at, Nat.zero_add, Int.toNat_natCast, decX, e, rn, List.map_nil]
  · rename_i k1 hz
    have hr := hrg hz
    refine Kl_n ⟨(a + (nx (l.drop a)).2.toNat, acc ++ [(nx (l.drop a)).1]), hI.next (by simp only []; omega) hz, by simp only []; omega, ?_⟩
    have e : ((a + (nx (l.drop a)).2.toNat : Nat) : Int) = (a : Int) + (nx (l.drop a)).2 := by omega
    simp only [e, rn, List.map_append, List.map_cons, List.map_nil]
  · have e := hI.last (by simp only []; omega)
    refine Kf_r ?_
    simp only [Tryd.f82, E4, E3, E2, E5, rawX, deadX, ET, T, SB, List.not_mem_nil, ↓reduceIte, ne_eq, reduceCtorEq, Nat.reduceLT, Nat.reduceEqDiff, Nat.reduceAdd, Nat.reduceMul, Nat.reduceLeDiff, Nat.reduceDiv, Nat.reduceMod, Nat.reduceSub, Nat.reduceBEq, List.length_map, bs_len, rn_len, cut_bs, cut_bsd, Int.sub_zero, rd_at, Nat.zero_add, Int.toNat_natCast, decX, e]
end Go.Proofs.YtdpflafjfkooeaaDoorG
