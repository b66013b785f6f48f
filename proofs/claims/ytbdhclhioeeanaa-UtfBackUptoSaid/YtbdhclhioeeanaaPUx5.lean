-- written by xp.py (a program of this session's own) over the kit's printer; not trusted: Lean checks it
import Derived.Test.YtbdhclhioeeanaaPUx0
import Derived.Test.YtbdhclhioeeanaaPUx1
namespace Go.Proofs.Ytbdhclhioeeanaa.PU
open Go.RowKit Go.Proofs.YtbdhclhioeeanaaW.PrintWords Go.Proofs.YtbdhclhioeeanaaW.PrintLast Go.Proofs.YtbdhclhioeeanaaW.PrintMore
attribute [local go_sem] max2_int min2_int max_two min_two max_three min_three max_four min_four   -- for this text's walks alone
set_option linter.unusedVariables false
set_option linter.unusedSimpArgs false

/-! ### utf_next: function 24 -/
/-- Is a byte one that stands behind a head? -/
def utf_next.cont (x : Int) : Bool := decide (128 ≤ x ∧ x < 192)
theorem utf_next.mask (x : Int) (h0 : 0 ≤ x) (h1 : x ≤ 255) : (Go.bits .and .u8 x 192 == 128) = utf_next.cont x ∧ (Go.bits .and .u8 x 192 != 128) = !utf_next.cont x := by
  obtain ⟨n, rfl⟩ := Int.eq_ofNat_of_zero_le h0
  have hn : n < 256 := by omega
  have key : ∀ m : Fin 256, (Go.bits .and .u8 ((m.val : Nat) : Int) 192 == 128) = utf_next.cont ((m.val : Nat) : Int) ∧ (Go.bits .and .u8 ((m.val : Nat) : Int) 192 != 128) = !utf_next.cont ((m.val : Nat) : Int) := by decide +kernel
  exact key ⟨n, hn⟩
def utf_next.size (r : Int) : Int := if r < 0 then 0 else if r > 1114111 then 0 else if 55296 ≤ r ∧ r < 57344 then 0 else if r < 128 then 1 else if r < 2048 then 2 else if r < 65536 then 3 else 4
theorem utf_next.size_f (r : Int) : utf_Size.f 1 r = some (utf_next.size r) := by
  unfold utf_Size.f utf_next.size
  by_cases c1 : r < 0
  · rw [if_pos c1, if_pos c1, decide_eq_true c1]; rfl
  rw [if_neg c1, if_neg c1]
  by_cases c2 : r > 1114111
  · rw [if_pos c2, if_pos c2, decide_eq_true c2]; rfl
  rw [if_neg c2, if_neg c2]
  by_cases c3 : r ≥ 55296
  · rw [if_pos c3]
    by_cases c4 : r < 57344
    · rw [if_pos ⟨c3, c4⟩, decide_eq_true c4]; rfl
    · rw [if_neg (by omega), decide_eq_false c4]
      simp only [utf_Size.j0, Bool.false_eq_true, if_false]
      repeat (split; · rfl)
      rfl
  · rw [if_neg c3, if_neg (by omega)]
    simp only [utf_Size.j0, Bool.false_eq_true, if_false]
    repeat (split; · rfl)
    rfl
def utf_next.bok (l : List Int) (i : Int) : Prop := 0 ≤ rd l i ∧ rd l i ≤ 255
instance (l : List Int) (i : Int) : Decidable (utf_next.bok l i) := by unfold utf_next.bok; exact inferInstance
/-- The number of a head and what stands behind it. -/
def utf_next.two (l : List Int) : Int := rd l 0 % 32 * 64 + rd l 1 % 64
def utf_next.three (l : List Int) : Int := (rd l 0 % 16 * 64 + rd l 1 % 64) * 64 + rd l 2 % 64
def utf_next.four (l : List Int) : Int := ((rd l 0 % 8 * 64 + rd l 1 % 64) * 64 + rd l 2 % 64) * 64 + rd l 3 % 64
/-- The form at the front of bytes: its number and its length; (0, 0): there is none. -/
def utf_next.p (l : List Int) : Int × Int :=
  if l.length = 0 then (0, 0)
  else if rd l 0 < 128 then (rd l 0, 1)
  else if rd l 0 < 192 then (0, 0)
  else if rd l 0 < 224 then (if 2 ≤ l.length ∧ utf_next.cont (rd l 1) = true ∧ utf_next.size (utf_next.two l) = 2 then (utf_next.two l, 2) else (0, 0))
  else if rd l 0 < 240 then (if 3 ≤ l.length ∧ utf_next.cont (rd l 1) = true ∧ utf_next.cont (rd l 2) = true ∧ utf_next.size (utf_next.three l) = 3 then (utf_next.three l, 3) else (0, 0))
  else if rd l 0 < 248 then (if 4 ≤ l.length ∧ utf_next.cont (rd l 1) = true ∧ utf_next.cont (rd l 2) = true ∧ utf_next.cont (rd l 3) = true ∧ utf_next.size (utf_next.four l) = 4 then (utf_next.four l, 4) else (0, 0))
  else (0, 0)
def utf_next.f (l0 : List Int) : Option (Int × Int) :=
  if (l0.length : Int) ≤ 9223372036854775807 ∧ ∀ j : Nat, j < 4 → j < l0.length → utf_next.bok l0 j then some (utf_next.p l0) else none
/-- What holds at a goto: the slots may hold anything. -/
def utf_next.J (w : World) (a' : Act) (w' : World) : Prop := (∃ nd : Nat, w' = w.drewN nd) ∧ ∃ (u0 u1 u2 u3 u4 u5 u6 u7 u8 u9 u10 u11 u12 u13 u14 u15 u16 u17 u18 u19 u20 u21 u22 u23 u24 u25 u26 u27 u28 u29 u30 u31 u32 u33 u34 u35 u36 u37 u38 u39 u40 u41 u42 u43 u44 u45 u46 u47 u48 u49 u50 u51 u52 u53 u54 u55 u56 u57 u58 u59 u60 u61 u62 u63 u64 u65 u66 u67 u68 : Value), a' = { tmps := #[u0, u1, u2, u3, u4, u5, u6, u7, u8, u9, u10, u11, u12, u13, u14, u15, u16, u17, u18, u19, u20, u21, u22, u23, u24, u25, u26, u27, u28, u29, u30, u31, u32, u33, u34, u35, u36, u37, u38, u39, u40, u41, u42, u43, u44, u45, u46, u47, u48, u49, u50, u51, u52, u53, u54, u55, u56, u57, u58, u59, u60, u61, u62, u63, u64, u65, u66, u67, u68], defers := [] }
def utf_next.rest : Code := Code.skip.seq ((Code.region 23 #[{ dst := some 2, op := Op.assign (Operand.const (Value.int IntKind.i32 0)), type := 21, pos := "utf.go:80", after := #[], guard := none }, { dst := some 3, op := Op.assign (Operand.const (Value.int IntKind.i64 0)), type := 3, pos := "utf.go:80", after := #[{ on := 0, ground := Ground.chain }, { on := 0, ground := Ground.phase }], guard := none }] false).seq Code.ret)
set_option maxHeartbeats 2000000 in
set_option maxRecDepth 100000 in
theorem utf_next.tail (w : World) : ∀ a' w', utf_next.J w a' w' → Code.wp Try.prog utf_next.rest (Exit.jump 0 (fun a₂ w₂ => utf_next.J w a₂ w₂ ∧ (0 : Nat) < 0) (bodyPost Try.prog Try.f24 fun e w' => e = .returned (.tuple #[.int .i32 0, .int .i64 0]) ∧ Drawn0 w w')) a' w' := by
  rintro a' w' ⟨⟨nd, rfl⟩, u0, u1, u2, u3, u4, u5, u6, u7, u8, u9, u10, u11, u12, u13, u14, u15, u16, u17, u18, u19, u20, u21, u22, u23, u24, u25, u26, u27, u28, u29, u30, u31, u32, u33, u34, u35, u36, u37, u38, u39, u40, u41, u42, u43, u44, u45, u46, u47, u48, u49, u50, u51, u52, u53, u54, u55, u56, u57, u58, u59, u60, u61, u62, u63, u64, u65, u66, u67, u68, rfl⟩
  unfold utf_next.rest
  go_wp2
  try simp only [Exit.jump]
  go_ret2
  exact ⟨rfl, ⟨⟨nd, rfl⟩⟩⟩
set_option maxHeartbeats 2000000 in
set_option maxRecDepth 100000 in
theorem utf_next.empty (ad : Option Addr) (c0 len : Nat) (w : World) (hc0 : len ≤ c0) (hm : (len : Int) ≤ 9223372036854775807) (hl0 : ((len : Int) == 0) = true) :
    Calls Try.prog 24 #[.slice ad len c0] w fun e w' => e = .returned (.tuple #[.int .i32 0, .int .i64 0]) ∧ Drawn0 w w' := by
  go_enter Try.func24, Try.ntmps24
  go_wp2
  refine wp_scope_jumps 0 (utf_next.J w) (fun _ _ => 0) rfl ?_ ?_
  · go_wp2
    go_step3
    exact ⟨rfl, ⟨0, rfl⟩, _, _, _, _, _, _, _, _, _, _, _, _, _, _, _, _, _, _, _, _, _, _, _, _, _, _, _, _, _, _, _, _, _, _, _, _, _, _, _, _, _, _, _, _, _, _, _, _, _, _, _, _, _, _, _, _, _, _, _, _, _, _, _, _, _, _, _, _, _, rfl⟩
  · exact utf_next.tail w
set_option maxHeartbeats 2000000 in
set_option maxRecDepth 100000 in
theorem utf_next.ascii (ad : Option Addr) (c0 len : Nat) (x : Addr) (ha : ad = some x) (x0 : Int) (w : World) (hc0 : len ≤ c0) (hm : (len : Int) ≤ 9223372036854775807) (hx0 : w.cell? x = some (.int .u8 x0)) (hl : 1 ≤ len) (hl0 : ((len : Int) == 0) = false) (b0l : 0 ≤ x0) (b0h : x0 ≤ 255) (h : x0 < 128) :
    Calls Try.prog 24 #[.slice ad len c0] w fun e w' => e = .returned (.tuple #[.int .i32 x0, .int .i64 1]) ∧ Drawn0 w w' := by
  subst ha
  go_enter Try.func24, Try.ntmps24
  go_wp2
  go_step3
  go_wp2
  rw [Exit.noGoto_ret]
  go_ret2
  exact ⟨rfl, by repeat (first | exact Drawn0.refl _ | exact ⟨⟨_, rfl⟩⟩ | apply Drawn0.step)⟩
set_option maxHeartbeats 2000000 in
set_option maxRecDepth 100000 in
theorem utf_next.low (ad : Option Addr) (c0 len : Nat) (x : Addr) (ha : ad = some x) (x0 : Int) (w : World) (hc0 : len ≤ c0) (hm : (len : Int) ≤ 9223372036854775807) (hx0 : w.cell? x = some (.int .u8 x0)) (hl : 1 ≤ len) (hl0 : ((len : Int) == 0) = false) (b0l : 0 ≤ x0) (b0h : x0 ≤ 255) (g : 128 ≤ x0) (h : x0 < 192) :
    Calls Try.prog 24 #[.slice ad len c0] w fun e w' => e = .returned (.tuple #[.int .i32 0, .int .i64 0]) ∧ Drawn0 w w' := by
  subst ha
  go_enter Try.func24, Try.ntmps24
  go_wp2
  refine wp_scope_jumps 0 (utf_next.J w) (fun _ _ => 0) rfl ?_ ?_
  · go_wp2
    go_step3
    exact ⟨rfl, ⟨0, rfl⟩, _, _, _, _, _, _, _, _, _, _, _, _, _, _, _, _, _, _, _, _, _, _, _, _, _, _, _, _, _, _, _, _, _, _, _, _, _, _, _, _, _, _, _, _, _, _, _, _, _, _, _, _, _, _, _, _, _, _, _, _, _, _, _, _, _, _, _, _, _, rfl⟩
  · exact utf_next.tail w
set_option maxHeartbeats 2000000 in
set_option maxRecDepth 100000 in
theorem utf_next.high (ad : Option Addr) (c0 len : Nat) (x : Addr) (ha : ad = some x) (x0 : Int) (w : World) (hc0 : len ≤ c0) (hm : (len : Int) ≤ 9223372036854775807) (hx0 : w.cell? x = some (.int .u8 x0)) (hl : 1 ≤ len) (hl0 : ((len : Int) == 0) = false) (b0l : 0 ≤ x0) (b0h : x0 ≤ 255) (g : 248 ≤ x0) :
    Calls Try.prog 24 #[.slice ad len c0] w fun e w' => e = .returned (.tuple #[.int .i32 0, .int .i64 0]) ∧ Drawn0 w w' := by
  subst ha
  go_enter Try.func24, Try.ntmps24
  go_wp2
  refine wp_scope_jumps 0 (utf_next.J w) (fun _ _ => 0) rfl ?_ ?_
  · go_wp2
    go_step3
    exact ⟨rfl, ⟨0, rfl⟩, _, _, _, _, _, _, _, _, _, _, _, _, _, _, _, _, _, _, _, _, _, _, _, _, _, _, _, _, _, _, _, _, _, _, _, _, _, _, _, _, _, _, _, _, _, _, _, _, _, _, _, _, _, _, _, _, _, _, _, _, _, _, _, _, _, _, _, _, _, rfl⟩
  · exact utf_next.tail w
set_option maxHeartbeats 2000000 in
set_option maxRecDepth 100000 in
theorem utf_next.short2 (ad : Option Addr) (c0 len : Nat) (x : Addr) (ha : ad = some x) (x0 : Int) (w : World) (hc0 : len ≤ c0) (hm : (len : Int) ≤ 9223372036854775807) (hx0 : w.cell? x = some (.int .u8 x0)) (hl : 1 ≤ len) (hl0 : ((len : Int) == 0) = false) (b0l : 0 ≤ x0) (b0h : x0 ≤ 255) (g : 192 ≤ x0) (h : x0 < 224) (hn : len < 2) :
    Calls Try.prog 24 #[.slice ad len c0] w fun e w' => e = .returned (.tuple #[.int .i32 0, .int .i64 0]) ∧ Drawn0 w w' := by
  subst ha
  go_enter Try.func24, Try.ntmps24
  go_wp2
  refine wp_scope_jumps 0 (utf_next.J w) (fun _ _ => 0) rfl ?_ ?_
  · go_wp2
    go_step3
    exact ⟨rfl, ⟨0, rfl⟩, _, _, _, _, _, _, _, _, _, _, _, _, _, _, _, _, _, _, _, _, _, _, _, _, _, _, _, _, _, _, _, _, _, _, _, _, _, _, _, _, _, _, _, _, _, _, _, _, _, _, _, _, _, _, _, _, _, _, _, _, _, _, _, _, _, _, _, _, _, rfl⟩
  · exact utf_next.tail w
set_option maxHeartbeats 2000000 in
set_option maxRecDepth 100000 in
theorem utf_next.bad21 (ad : Option Addr) (c0 len : Nat) (x : Addr) (ha : ad = some x) (x0 : Int) (x1 : Int) (w : World) (hc0 : len ≤ c0) (hm : (len : Int) ≤ 9223372036854775807) (hx0 : w.cell? x = some (.int .u8 x0)) (hl : 1 ≤ len) (hl0 : ((len : Int) == 0) = false) (b0l : 0 ≤ x0) (b0h : x0 ≤ 255) (g : 192 ≤ x0) (h : x0 < 224) (hn : 2 ≤ len) (hx1 : w.cell? ⟨x.block, x.off + 1, none⟩ = some (.int .u8 x1)) (b1l : 0 ≤ x1) (b1h : x1 ≤ 255) (t1 : (Go.bits .and .u8 x1 192 == 128) = false) (t1' : (Go.bits .and .u8 x1 192 != 128) = true) :
    Calls Try.prog 24 #[.slice ad len c0] w fun e w' => e = .returned (.tuple #[.int .i32 0, .int .i64 0]) ∧ Drawn0 w w' := by
  subst ha
  go_enter Try.func24, Try.ntmps24
  go_wp2
  refine wp_scope_jumps 0 (utf_next.J w) (fun _ _ => 0) rfl ?_ ?_
  · go_wp2
    refine wp_loop_rounds 1 ?_
    rw [rounds_succ]
    go_wp2
    go_step3
    exact ⟨rfl, ⟨0, rfl⟩, _, _, _, _, _, _, _, _, _, _, _, _, _, _, _, _, _, _, _, _, _, _, _, _, _, _, _, _, _, _, _, _, _, _, _, _, _, _, _, _, _, _, _, _, _, _, _, _, _, _, _, _, _, _, _, _, _, _, _, _, _, _, _, _, _, _, _, _, _, rfl⟩
  · exact utf_next.tail w
set_option maxHeartbeats 2000000 in
set_option maxRecDepth 100000 in
theorem utf_next.good2 (ad : Option Addr) (c0 len : Nat) (x : Addr) (ha : ad = some x) (x0 : Int) (x1 : Int) (w : World) (hc0 : len ≤ c0) (hm : (len : Int) ≤ 9223372036854775807) (hx0 : w.cell? x = some (.int .u8 x0)) (hl : 1 ≤ len) (hl0 : ((len : Int) == 0) = false) (b0l : 0 ≤ x0) (b0h : x0 ≤ 255) (g : 192 ≤ x0) (h : x0 < 224) (hn : 2 ≤ len) (hx1 : w.cell? ⟨x.block, x.off + 1, none⟩ = some (.int .u8 x1)) (b1l : 0 ≤ x1) (b1h : x1 ≤ 255) (t1 : (Go.bits .and .u8 x1 192 == 128) = true) (t1' : (Go.bits .and .u8 x1 192 != 128) = false) (s : Int) (HS : Aside0 (utf_Size.f 1 (x0 % 32 * 64 + x1 % 64) = some s)) (hs : (s == 2) = true) :
    Calls Try.prog 24 #[.slice ad len c0] w fun e w' => e = .returned (.tuple #[.int .i32 (x0 % 32 * 64 + x1 % 64), .int .i64 2]) ∧ Drawn0 w w' := by
  subst ha
  go_enter Try.func24, Try.ntmps24
  go_wp2
  go_step3
  go_wp2
  refine wp_loop_rounds 2 ?_
  rw [rounds_succ]
  go_wp2_with (go_at_call 14; refine (utf_Size.calls 1 _ _ _ HS.out).mono ?_; rintro e w' ⟨rfl, ⟨nd, rfl⟩⟩)
  rw [rounds_succ]
  go_wp2_with (go_at_call 14; refine (utf_Size.calls 1 _ _ _ HS.out).mono ?_; rintro e w' ⟨rfl, ⟨nd, rfl⟩⟩)
  rw [Exit.noGoto_ret]
  go_ret2
  exact ⟨rfl, by repeat (first | exact Drawn0.refl _ | exact ⟨⟨_, rfl⟩⟩ | apply Drawn0.step)⟩
set_option maxHeartbeats 2000000 in
set_option maxRecDepth 100000 in
theorem utf_next.odd2 (ad : Option Addr) (c0 len : Nat) (x : Addr) (ha : ad = some x) (x0 : Int) (x1 : Int) (w : World) (hc0 : len ≤ c0) (hm : (len : Int) ≤ 9223372036854775807) (hx0 : w.cell? x = some (.int .u8 x0)) (hl : 1 ≤ len) (hl0 : ((len : Int) == 0) = false) (b0l : 0 ≤ x0) (b0h : x0 ≤ 255) (g : 192 ≤ x0) (h : x0 < 224) (hn : 2 ≤ len) (hx1 : w.cell? ⟨x.block, x.off + 1, none⟩ = some (.int .u8 x1)) (b1l : 0 ≤ x1) (b1h : x1 ≤ 255) (t1 : (Go.bits .and .u8 x1 192 == 128) = true) (t1' : (Go.bits .and .u8 x1 192 != 128) = false) (s : Int) (HS : Aside0 (utf_Size.f 1 (x0 % 32 * 64 + x1 % 64) = some s)) (hs : (s == 2) = false) :
    Calls Try.prog 24 #[.slice ad len c0] w fun e w' => e = .returned (.tuple #[.int .i32 0, .int .i64 0]) ∧ Drawn0 w w' := by
  subst ha
  go_enter Try.func24, Try.ntmps24
  go_wp2
  go_step3
  go_wp2
  refine wp_loop_rounds 2 ?_
  rw [rounds_succ]
  go_wp2_with (go_at_call 14; refine (utf_Size.calls 1 _ _ _ HS.out).mono ?_; rintro e w' ⟨rfl, ⟨nd, rfl⟩⟩)
  rw [rounds_succ]
  go_wp2_with (go_at_call 14; refine (utf_Size.calls 1 _ _ _ HS.out).mono ?_; rintro e w' ⟨rfl, ⟨nd, rfl⟩⟩)
  go_step3
  go_wp2
  rw [Exit.noGoto_ret]
  go_ret2
  exact ⟨rfl, by repeat (first | exact Drawn0.refl _ | exact ⟨⟨_, rfl⟩⟩ | apply Drawn0.step)⟩
set_option maxHeartbeats 2000000 in
set_option maxRecDepth 100000 in
theorem utf_next.short3 (ad : Option Addr) (c0 len : Nat) (x : Addr) (ha : ad = some x) (x0 : Int) (w : World) (hc0 : len ≤ c0) (hm : (len : Int) ≤ 9223372036854775807) (hx0 : w.cell? x = some (.int .u8 x0)) (hl : 1 ≤ len) (hl0 : ((len : Int) == 0) = false) (b0l : 0 ≤ x0) (b0h : x0 ≤ 255) (g : 224 ≤ x0) (h : x0 < 240) (hn : len < 3) :
    Calls Try.prog 24 #[.slice ad len c0] w fun e w' => e = .returned (.tuple #[.int .i32 0, .int .i64 0]) ∧ Drawn0 w w' := by
  subst ha
  go_enter Try.func24, Try.ntmps24
  go_wp2
  refine wp_scope_jumps 0 (utf_next.J w) (fun _ _ => 0) rfl ?_ ?_
  · go_wp2
    go_step3
    exact ⟨rfl, ⟨0, rfl⟩, _, _, _, _, _, _, _, _, _, _, _, _, _, _, _, _, _, _, _, _, _, _, _, _, _, _, _, _, _, _, _, _, _, _, _, _, _, _, _, _, _, _, _, _, _, _, _, _, _, _, _, _, _, _, _, _, _, _, _, _, _, _, _, _, _, _, _, _, _, rfl⟩
  · exact utf_next.tail w
set_option maxHeartbeats 2000000 in
set_option maxRecDepth 100000 in
theorem utf_next.bad31 (ad : Option Addr) (c0 len : Nat) (x : Addr) (ha : ad = some x) (x0 : Int) (x1 : Int) (w : World) (hc0 : len ≤ c0) (hm : (len : Int) ≤ 9223372036854775807) (hx0 : w.cell? x = some (.int .u8 x0)) (hl : 1 ≤ len) (hl0 : ((len : Int) == 0) = false) (b0l : 0 ≤ x0) (b0h : x0 ≤ 255) (g : 224 ≤ x0) (h : x0 < 240) (hn : 3 ≤ len) (hx1 : w.cell? ⟨x.block, x.off + 1, none⟩ = some (.int .u8 x1)) (b1l : 0 ≤ x1) (b1h : x1 ≤ 255) (t1 : (Go.bits .and .u8 x1 192 == 128) = false) (t1' : (Go.bits .and .u8 x1 192 != 128) = true) :
    Calls Try.prog 24 #[.slice ad len c0] w fun e w' => e = .returned (.tuple #[.int .i32 0, .int .i64 0]) ∧ Drawn0 w w' := by
  subst ha
  go_enter Try.func24, Try.ntmps24
  go_wp2
  refine wp_scope_jumps 0 (utf_next.J w) (fun _ _ => 0) rfl ?_ ?_
  · go_wp2
    refine wp_loop_rounds 1 ?_
    rw [rounds_succ]
    go_wp2
    go_step3
    exact ⟨rfl, ⟨0, rfl⟩, _, _, _, _, _, _, _, _, _, _, _, _, _, _, _, _, _, _, _, _, _, _, _, _, _, _, _, _, _, _, _, _, _, _, _, _, _, _, _, _, _, _, _, _, _, _, _, _, _, _, _, _, _, _, _, _, _, _, _, _, _, _, _, _, _, _, _, _, _, rfl⟩
  · exact utf_next.tail w
set_option maxHeartbeats 2000000 in
set_option maxRecDepth 100000 in
theorem utf_next.bad32 (ad : Option Addr) (c0 len : Nat) (x : Addr) (ha : ad = some x) (x0 : Int) (x1 : Int) (x2 : Int) (w : World) (hc0 : len ≤ c0) (hm : (len : Int) ≤ 9223372036854775807) (hx0 : w.cell? x = some (.int .u8 x0)) (hl : 1 ≤ len) (hl0 : ((len : Int) == 0) = false) (b0l : 0 ≤ x0) (b0h : x0 ≤ 255) (g : 224 ≤ x0) (h : x0 < 240) (hn : 3 ≤ len) (hx1 : w.cell? ⟨x.block, x.off + 1, none⟩ = some (.int .u8 x1)) (b1l : 0 ≤ x1) (b1h : x1 ≤ 255) (hx2 : w.cell? ⟨x.block, x.off + 1 + 1, none⟩ = some (.int .u8 x2)) (b2l : 0 ≤ x2) (b2h : x2 ≤ 255) (t1 : (Go.bits .and .u8 x1 192 == 128) = true) (t1' : (Go.bits .and .u8 x1 192 != 128) = false) (t2 : (Go.bits .and .u8 x2 192 == 128) = false) (t2' : (Go.bits .and .u8 x2 192 != 128) = true) :
    Calls Try.prog 24 #[.slice ad len c0] w fun e w' => e = .returned (.tuple #[.int .i32 0, .int .i64 0]) ∧ Drawn0 w w' := by
  subst ha
  go_enter Try.func24, Try.ntmps24
  go_wp2
  refine wp_scope_jumps 0 (utf_next.J w) (fun _ _ => 0) rfl ?_ ?_
  · go_wp2
    refine wp_loop_rounds 2 ?_
    rw [rounds_succ]
    go_wp2
    rw [rounds_succ]
    go_wp2
    go_step3
    exact ⟨rfl, ⟨0, rfl⟩, _, _, _, _, _, _, _, _, _, _, _, _, _, _, _, _, _, _, _, _, _, _, _, _, _, _, _, _, _, _, _, _, _, _, _, _, _, _, _, _, _, _, _, _, _, _, _, _, _, _, _, _, _, _, _, _, _, _, _, _, _, _, _, _, _, _, _, _, _, rfl⟩
  · exact utf_next.tail w
set_option maxHeartbeats 2000000 in
set_option maxRecDepth 100000 in
theorem utf_next.good3 (ad : Option Addr) (c0 len : Nat) (x : Addr) (ha : ad = some x) (x0 : Int) (x1 : Int) (x2 : Int) (w : World) (hc0 : len ≤ c0) (hm : (len : Int) ≤ 9223372036854775807) (hx0 : w.cell? x = some (.int .u8 x0)) (hl : 1 ≤ len) (hl0 : ((len : Int) == 0) = false) (b0l : 0 ≤ x0) (b0h : x0 ≤ 255) (g : 224 ≤ x0) (h : x0 < 240) (hn : 3 ≤ len) (hx1 : w.cell? ⟨x.block, x.off + 1, none⟩ = some (.int .u8 x1)) (b1l : 0 ≤ x1) (b1h : x1 ≤ 255) (hx2 : w.cell? ⟨x.block, x.off + 1 + 1, none⟩ = some (.int .u8 x2)) (b2l : 0 ≤ x2) (b2h : x2 ≤ 255) (t1 : (Go.bits .and .u8 x1 192 == 128) = true) (t1' : (Go.bits .and .u8 x1 192 != 128) = false) (t2 : (Go.bits .and .u8 x2 192 == 128) = true) (t2' : (Go.bits .and .u8 x2 192 != 128) = false) (s : Int) (HS : Aside0 (utf_Size.f 1 ((x0 % 16 * 64 + x1 % 64) * 64 + x2 % 64) = some s)) (hs : (s == 3) = true) :
    Calls Try.prog 24 #[.slice ad len c0] w fun e w' => e = .returned (.tuple #[.int .i32 ((x0 % 16 * 64 + x1 % 64) * 64 + x2 % 64), .int .i64 3]) ∧ Drawn0 w w' := by
  subst ha
  go_enter Try.func24, Try.ntmps24
  go_wp2
  go_step3
  go_wp2
  refine wp_loop_rounds 3 ?_
  rw [rounds_succ]
  go_wp2_with (go_at_call 14; refine (utf_Size.calls 1 _ _ _ HS.out).mono ?_; rintro e w' ⟨rfl, ⟨nd, rfl⟩⟩)
  rw [rounds_succ]
  go_wp2_with (go_at_call 14; refine (utf_Size.calls 1 _ _ _ HS.out).mono ?_; rintro e w' ⟨rfl, ⟨nd, rfl⟩⟩)
  rw [rounds_succ]
  go_wp2_with (go_at_call 14; refine (utf_Size.calls 1 _ _ _ HS.out).mono ?_; rintro e w' ⟨rfl, ⟨nd, rfl⟩⟩)
  rw [Exit.noGoto_ret]
  go_ret2
  exact ⟨rfl, by repeat (first | exact Drawn0.refl _ | exact ⟨⟨_, rfl⟩⟩ | apply Drawn0.step)⟩
set_option maxHeartbeats 2000000 in
set_option maxRecDepth 100000 in
theorem utf_next.odd3 (ad : Option Addr) (c0 len : Nat) (x : Addr) (ha : ad = some x) (x0 : Int) (x1 : Int) (x2 : Int) (w : World) (hc0 : len ≤ c0) (hm : (len : Int) ≤ 9223372036854775807) (hx0 : w.cell? x = some (.int .u8 x0)) (hl : 1 ≤ len) (hl0 : ((len : Int) == 0) = false) (b0l : 0 ≤ x0) (b0h : x0 ≤ 255) (g : 224 ≤ x0) (h : x0 < 240) (hn : 3 ≤ len) (hx1 : w.cell? ⟨x.block, x.off + 1, none⟩ = some (.int .u8 x1)) (b1l : 0 ≤ x1) (b1h : x1 ≤ 255) (hx2 : w.cell? ⟨x.block, x.off + 1 + 1, none⟩ = some (.int .u8 x2)) (b2l : 0 ≤ x2) (b2h : x2 ≤ 255) (t1 : (Go.bits .and .u8 x1 192 == 128) = true) (t1' : (Go.bits .and .u8 x1 192 != 128) = false) (t2 : (Go.bits .and .u8 x2 192 == 128) = true) (t2' : (Go.bits .and .u8 x2 192 != 128) = false) (s : Int) (HS : Aside0 (utf_Size.f 1 ((x0 % 16 * 64 + x1 % 64) * 64 + x2 % 64) = some s)) (hs : (s == 3) = false) :
    Calls Try.prog 24 #[.slice ad len c0] w fun e w' => e = .returned (.tuple #[.int .i32 0, .int .i64 0]) ∧ Drawn0 w w' := by
  subst ha
  go_enter Try.func24, Try.ntmps24
  go_wp2
  go_step3
  go_wp2
  refine wp_loop_rounds 3 ?_
  rw [rounds_succ]
  go_wp2_with (go_at_call 14; refine (utf_Size.calls 1 _ _ _ HS.out).mono ?_; rintro e w' ⟨rfl, ⟨nd, rfl⟩⟩)
  rw [rounds_succ]
  go_wp2_with (go_at_call 14; refine (utf_Size.calls 1 _ _ _ HS.out).mono ?_; rintro e w' ⟨rfl, ⟨nd, rfl⟩⟩)
  rw [rounds_succ]
  go_wp2_with (go_at_call 14; refine (utf_Size.calls 1 _ _ _ HS.out).mono ?_; rintro e w' ⟨rfl, ⟨nd, rfl⟩⟩)
  go_step3
  go_wp2
  rw [Exit.noGoto_ret]
  go_ret2
  exact ⟨rfl, by repeat (first | exact Drawn0.refl _ | exact ⟨⟨_, rfl⟩⟩ | apply Drawn0.step)⟩
set_option maxHeartbeats 2000000 in
set_option maxRecDepth 100000 in
theorem utf_next.short4 (ad : Option Addr) (c0 len : Nat) (x : Addr) (ha : ad = some x) (x0 : Int) (w : World) (hc0 : len ≤ c0) (hm : (len : Int) ≤ 9223372036854775807) (hx0 : w.cell? x = some (.int .u8 x0)) (hl : 1 ≤ len) (hl0 : ((len : Int) == 0) = false) (b0l : 0 ≤ x0) (b0h : x0 ≤ 255) (g : 240 ≤ x0) (h : x0 < 248) (hn : len < 4) :
    Calls Try.prog 24 #[.slice ad len c0] w fun e w' => e = .returned (.tuple #[.int .i32 0, .int .i64 0]) ∧ Drawn0 w w' := by
  subst ha
  go_enter Try.func24, Try.ntmps24
  go_wp2
  refine wp_scope_jumps 0 (utf_next.J w) (fun _ _ => 0) rfl ?_ ?_
  · go_wp2
    go_step3
    exact ⟨rfl, ⟨0, rfl⟩, _, _, _, _, _, _, _, _, _, _, _, _, _, _, _, _, _, _, _, _, _, _, _, _, _, _, _, _, _, _, _, _, _, _, _, _, _, _, _, _, _, _, _, _, _, _, _, _, _, _, _, _, _, _, _, _, _, _, _, _, _, _, _, _, _, _, _, _, _, rfl⟩
  · exact utf_next.tail w
set_option maxHeartbeats 2000000 in
set_option maxRecDepth 100000 in
theorem utf_next.bad41 (ad : Option Addr) (c0 len : Nat) (x : Addr) (ha : ad = some x) (x0 : Int) (x1 : Int) (w : World) (hc0 : len ≤ c0) (hm : (len : Int) ≤ 9223372036854775807) (hx0 : w.cell? x = some (.int .u8 x0)) (hl : 1 ≤ len) (hl0 : ((len : Int) == 0) = false) (b0l : 0 ≤ x0) (b0h : x0 ≤ 255) (g : 240 ≤ x0) (h : x0 < 248) (hn : 4 ≤ len) (hx1 : w.cell? ⟨x.block, x.off + 1, none⟩ = some (.int .u8 x1)) (b1l : 0 ≤ x1) (b1h : x1 ≤ 255) (t1 : (Go.bits .and .u8 x1 192 == 128) = false) (t1' : (Go.bits .and .u8 x1 192 != 128) = true) :
    Calls Try.prog 24 #[.slice ad len c0] w fun e w' => e = .returned (.tuple #[.int .i32 0, .int .i64 0]) ∧ Drawn0 w w' := by
  subst ha
  go_enter Try.func24, Try.ntmps24
  go_wp2
  refine wp_scope_jumps 0 (utf_next.J w) (fun _ _ => 0) rfl ?_ ?_
  · go_wp2
    refine wp_loop_rounds 1 ?_
    rw [rounds_succ]
    go_wp2
    go_step3
    exact ⟨rfl, ⟨0, rfl⟩, _, _, _, _, _, _, _, _, _, _, _, _, _, _, _, _, _, _, _, _, _, _, _, _, _, _, _, _, _, _, _, _, _, _, _, _, _, _, _, _, _, _, _, _, _, _, _, _, _, _, _, _, _, _, _, _, _, _, _, _, _, _, _, _, _, _, _, _, _, rfl⟩
  · exact utf_next.tail w
set_option maxHeartbeats 2000000 in
set_option maxRecDepth 100000 in
theorem utf_next.bad42 (ad : Option Addr) (c0 len : Nat) (x : Addr) (ha : ad = some x) (x0 : Int) (x1 : Int) (x2 : Int) (w : World) (hc0 : len ≤ c0) (hm : (len : Int) ≤ 9223372036854775807) (hx0 : w.cell? x = some (.int .u8 x0)) (hl : 1 ≤ len) (hl0 : ((len : Int) == 0) = false) (b0l : 0 ≤ x0) (b0h : x0 ≤ 255) (g : 240 ≤ x0) (h : x0 < 248) (hn : 4 ≤ len) (hx1 : w.cell? ⟨x.block, x.off + 1, none⟩ = some (.int .u8 x1)) (b1l : 0 ≤ x1) (b1h : x1 ≤ 255) (hx2 : w.cell? ⟨x.block, x.off + 1 + 1, none⟩ = some (.int .u8 x2)) (b2l : 0 ≤ x2) (b2h : x2 ≤ 255) (t1 : (Go.bits .and .u8 x1 192 == 128) = true) (t1' : (Go.bits .and .u8 x1 192 != 128) = false) (t2 : (Go.bits .and .u8 x2 192 == 128) = false) (t2' : (Go.bits .and .u8 x2 192 != 128) = true) :
    Calls Try.prog 24 #[.slice ad len c0] w fun e w' => e = .returned (.tuple #[.int .i32 0, .int .i64 0]) ∧ Drawn0 w w' := by
  subst ha
  go_enter Try.func24, Try.ntmps24
  go_wp2
  refine wp_scope_jumps 0 (utf_next.J w) (fun _ _ => 0) rfl ?_ ?_
  · go_wp2
    refine wp_loop_rounds 2 ?_
    rw [rounds_succ]
    go_wp2
    rw [rounds_succ]
    go_wp2
    go_step3
    exact ⟨rfl, ⟨0, rfl⟩, _, _, _, _, _, _, _, _, _, _, _, _, _, _, _, _, _, _, _, _, _, _, _, _, _, _, _, _, _, _, _, _, _, _, _, _, _, _, _, _, _, _, _, _, _, _, _, _, _, _, _, _, _, _, _, _, _, _, _, _, _, _, _, _, _, _, _, _, _, rfl⟩
  · exact utf_next.tail w
set_option maxHeartbeats 2000000 in
set_option maxRecDepth 100000 in
theorem utf_next.bad43 (ad : Option Addr) (c0 len : Nat) (x : Addr) (ha : ad = some x) (x0 : Int) (x1 : Int) (x2 : Int) (x3 : Int) (w : World) (hc0 : len ≤ c0) (hm : (len : Int) ≤ 9223372036854775807) (hx0 : w.cell? x = some (.int .u8 x0)) (hl : 1 ≤ len) (hl0 : ((len : Int) == 0) = false) (b0l : 0 ≤ x0) (b0h : x0 ≤ 255) (g : 240 ≤ x0) (h : x0 < 248) (hn : 4 ≤ len) (hx1 : w.cell? ⟨x.block, x.off + 1, none⟩ = some (.int .u8 x1)) (b1l : 0 ≤ x1) (b1h : x1 ≤ 255) (hx2 : w.cell? ⟨x.block, x.off + 1 + 1, none⟩ = some (.int .u8 x2)) (b2l : 0 ≤ x2) (b2h : x2 ≤ 255) (hx3 : w.cell? ⟨x.block, x.off + 1 + 2, none⟩ = some (.int .u8 x3)) (b3l : 0 ≤ x3) (b3h : x3 ≤ 255) (t1 : (Go.bits .and .u8 x1 192 == 128) = true) (t1' : (Go.bits .and .u8 x1 192 != 128) = false) (t2 : (Go.bits .and .u8 x2 192 == 128) = true) (t2' : (Go.bits .and .u8 x2 192 != 128) = false) (t3 : (Go.bits .and .u8 x3 192 == 128) = false) (t3' : (Go.bits .and .u8 x3 192 != 128) = true) :
    Calls Try.prog 24 #[.slice ad len c0] w fun e w' => e = .returned (.tuple #[.int .i32 0, .int .i64 0]) ∧ Drawn0 w w' := by
  subst ha
  go_enter Try.func24, Try.ntmps24
  go_wp2
  refine wp_scope_jumps 0 (utf_next.J w) (fun _ _ => 0) rfl ?_ ?_
  · go_wp2
    refine wp_loop_rounds 3 ?_
    rw [rounds_succ]
    go_wp2
    rw [rounds_succ]
    go_wp2
    rw [rounds_succ]
    go_wp2
    go_step3
    exact ⟨rfl, ⟨0, rfl⟩, _, _, _, _, _, _, _, _, _, _, _, _, _, _, _, _, _, _, _, _, _, _, _, _, _, _, _, _, _, _, _, _, _, _, _, _, _, _, _, _, _, _, _, _, _, _, _, _, _, _, _, _, _, _, _, _, _, _, _, _, _, _, _, _, _, _, _, _, _, rfl⟩
  · exact utf_next.tail w
set_option maxHeartbeats 2000000 in
set_option maxRecDepth 100000 in
theorem utf_next.good4 (ad : Option Addr) (c0 len : Nat) (x : Addr) (ha : ad = some x) (x0 : Int) (x1 : Int) (x2 : Int) (x3 : Int) (w : World) (hc0 : len ≤ c0) (hm : (len : Int) ≤ 9223372036854775807) (hx0 : w.cell? x = some (.int .u8 x0)) (hl : 1 ≤ len) (hl0 : ((len : Int) == 0) = false) (b0l : 0 ≤ x0) (b0h : x0 ≤ 255) (g : 240 ≤ x0) (h : x0 < 248) (hn : 4 ≤ len) (hx1 : w.cell? ⟨x.block, x.off + 1, none⟩ = some (.int .u8 x1)) (b1l : 0 ≤ x1) (b1h : x1 ≤ 255) (hx2 : w.cell? ⟨x.block, x.off + 1 + 1, none⟩ = some (.int .u8 x2)) (b2l : 0 ≤ x2) (b2h : x2 ≤ 255) (hx3 : w.cell? ⟨x.block, x.off + 1 + 2, none⟩ = some (.int .u8 x3)) (b3l : 0 ≤ x3) (b3h : x3 ≤ 255) (t1 : (Go.bits .and .u8 x1 192 == 128) = true) (t1' : (Go.bits .and .u8 x1 192 != 128) = false) (t2 : (Go.bits .and .u8 x2 192 == 128) = true) (t2' : (Go.bits .and .u8 x2 192 != 128) = false) (t3 : (Go.bits .and .u8 x3 192 == 128) = true) (t3' : (Go.bits .and .u8 x3 192 != 128) = false) (s : Int) (HS : Aside0 (utf_Size.f 1 (((x0 % 8 * 64 + x1 % 64) * 64 + x2 % 64) * 64 + x3 % 64) = some s)) (hs : (s == 4) = true) :
    Calls Try.prog 24 #[.slice ad len c0] w fun e w' => e = .returned (.tuple #[.int .i32 (((x0 % 8 * 64 + x1 % 64) * 64 + x2 % 64) * 64 + x3 % 64), .int .i64 4]) ∧ Drawn0 w w' := by
  subst ha
  go_enter Try.func24, Try.ntmps24
  go_wp2
  go_step3
  go_wp2
  refine wp_loop_rounds 4 ?_
  rw [rounds_succ]
  go_wp2_with (go_at_call 14; refine (utf_Size.calls 1 _ _ _ HS.out).mono ?_; rintro e w' ⟨rfl, ⟨nd, rfl⟩⟩)
  rw [rounds_succ]
  go_wp2_with (go_at_call 14; refine (utf_Size.calls 1 _ _ _ HS.out).mono ?_; rintro e w' ⟨rfl, ⟨nd, rfl⟩⟩)
  rw [rounds_succ]
  go_wp2_with (go_at_call 14; refine (utf_Size.calls 1 _ _ _ HS.out).mono ?_; rintro e w' ⟨rfl, ⟨nd, rfl⟩⟩)
  rw [rounds_succ]
  go_wp2_with (go_at_call 14; refine (utf_Size.calls 1 _ _ _ HS.out).mono ?_; rintro e w' ⟨rfl, ⟨nd, rfl⟩⟩)
  rw [Exit.noGoto_ret]
  go_ret2
  exact ⟨rfl, by repeat (first | exact Drawn0.refl _ | exact ⟨⟨_, rfl⟩⟩ | apply Drawn0.step)⟩
set_option maxHeartbeats 2000000 in
set_option maxRecDepth 100000 in
theorem utf_next.odd4 (ad : Option Addr) (c0 len : Nat) (x : Addr) (ha : ad = some x) (x0 : Int) (x1 : Int) (x2 : Int) (x3 : Int) (w : World) (hc0 : len ≤ c0) (hm : (len : Int) ≤ 9223372036854775807) (hx0 : w.cell? x = some (.int .u8 x0)) (hl : 1 ≤ len) (hl0 : ((len : Int) == 0) = false) (b0l : 0 ≤ x0) (b0h : x0 ≤ 255) (g : 240 ≤ x0) (h : x0 < 248) (hn : 4 ≤ len) (hx1 : w.cell? ⟨x.block, x.off + 1, none⟩ = some (.int .u8 x1)) (b1l : 0 ≤ x1) (b1h : x1 ≤ 255) (hx2 : w.cell? ⟨x.block, x.off + 1 + 1, none⟩ = some (.int .u8 x2)) (b2l : 0 ≤ x2) (b2h : x2 ≤ 255) (hx3 : w.cell? ⟨x.block, x.off + 1 + 2, none⟩ = some (.int .u8 x3)) (b3l : 0 ≤ x3) (b3h : x3 ≤ 255) (t1 : (Go.bits .and .u8 x1 192 == 128) = true) (t1' : (Go.bits .and .u8 x1 192 != 128) = false) (t2 : (Go.bits .and .u8 x2 192 == 128) = true) (t2' : (Go.bits .and .u8 x2 192 != 128) = false) (t3 : (Go.bits .and .u8 x3 192 == 128) = true) (t3' : (Go.bits .and .u8 x3 192 != 128) = false) (s : Int) (HS : Aside0 (utf_Size.f 1 (((x0 % 8 * 64 + x1 % 64) * 64 + x2 % 64) * 64 + x3 % 64) = some s)) (hs : (s == 4) = false) :
    Calls Try.prog 24 #[.slice ad len c0] w fun e w' => e = .returned (.tuple #[.int .i32 0, .int .i64 0]) ∧ Drawn0 w w' := by
  subst ha
  go_enter Try.func24, Try.ntmps24
  go_wp2
  go_step3
  go_wp2
  refine wp_loop_rounds 4 ?_
  rw [rounds_succ]
  go_wp2_with (go_at_call 14; refine (utf_Size.calls 1 _ _ _ HS.out).mono ?_; rintro e w' ⟨rfl, ⟨nd, rfl⟩⟩)
  rw [rounds_succ]
  go_wp2_with (go_at_call 14; refine (utf_Size.calls 1 _ _ _ HS.out).mono ?_; rintro e w' ⟨rfl, ⟨nd, rfl⟩⟩)
  rw [rounds_succ]
  go_wp2_with (go_at_call 14; refine (utf_Size.calls 1 _ _ _ HS.out).mono ?_; rintro e w' ⟨rfl, ⟨nd, rfl⟩⟩)
  rw [rounds_succ]
  go_wp2_with (go_at_call 14; refine (utf_Size.calls 1 _ _ _ HS.out).mono ?_; rintro e w' ⟨rfl, ⟨nd, rfl⟩⟩)
  go_step3
  go_wp2
  rw [Exit.noGoto_ret]
  go_ret2
  exact ⟨rfl, by repeat (first | exact Drawn0.refl _ | exact ⟨⟨_, rfl⟩⟩ | apply Drawn0.step)⟩
set_option maxHeartbeats 1000000 in
theorem utf_next.all (A0 : Option Addr) (c0 : Nat) (l0 : List Int) (w : World) (hr0 : Kd.C (Kd.int .u8) w A0 l0.length l0) (hc0 : l0.length ≤ c0) (hm : (l0.length : Int) ≤ 9223372036854775807) (hb : ∀ j : Nat, j < 4 → j < l0.length → utf_next.bok l0 j) :
    Calls Try.prog 24 #[.slice A0 l0.length c0] w fun e w' => e = .returned (.tuple #[.int .i32 (utf_next.p l0).1, .int .i64 (utf_next.p l0).2]) ∧ Drawn0 w w' := by
  unfold utf_next.p
  by_cases z : l0.length = 0
  · rw [if_pos z]
    exact utf_next.empty A0 c0 l0.length w hc0 hm (by rw [beq_iff_eq]; omega)
  rw [if_neg z]
  have hl0 : ((l0.length : Int) == 0) = false := by rw [beq_eq_false_iff_ne]; omega
  obtain ⟨x, hA, hx0⟩ := Kd.at_int hr0 0 (by omega) (by omega)
  rw [show ((0 : Int)).toNat = 0 from rfl, Addr.add_zero'] at hx0
  have cell : ∀ j : Nat, 1 ≤ j → j < l0.length → w.cell? ⟨x.block, x.off + j, none⟩ = some (.int .u8 (rd l0 j)) := by
    intro j h1 h2
    obtain ⟨x', hA', hx⟩ := Kd.at_int hr0 j (by omega) (by omega)
    obtain rfl : x = x' := by rw [hA] at hA'; exact Option.some.inj hA'
    rw [Int.toNat_natCast] at hx
    simp only [Addr.add, if_neg (show ¬ j = 0 by omega)] at hx
    exact hx
  have b0 : 0 ≤ rd l0 0 ∧ rd l0 0 ≤ 255 := hb 0 (by omega) (by omega)
  by_cases c1 : rd l0 0 < 128
  · rw [if_pos c1]
    exact utf_next.ascii A0 c0 l0.length x hA (rd l0 0) w hc0 hm hx0 (by omega) hl0 b0.1 b0.2 c1
  rw [if_neg c1]
  by_cases c2 : rd l0 0 < 192
  · rw [if_pos c2]
    exact utf_next.low A0 c0 l0.length x hA (rd l0 0) w hc0 hm hx0 (by omega) hl0 b0.1 b0.2 (by omega) c2
  rw [if_neg c2]
  by_cases d2 : rd l0 0 < 224
  · rw [if_pos d2]
    by_cases n2 : 2 ≤ l0.length
    · have b1 : 0 ≤ rd l0 1 ∧ rd l0 1 ≤ 255 := hb 1 (by omega) (by omega)
      have hx1 := cell 1 (by omega) (by omega)
      have m1 := utf_next.mask (rd l0 1) b1.1 b1.2
      by_cases t1 : utf_next.cont (rd l0 1) = true
      · by_cases hs : utf_next.size (utf_next.two l0) = 2
        · rw [if_pos ⟨n2, t1, hs⟩]
          exact utf_next.good2 A0 c0 l0.length x hA (rd l0 0) (rd l0 1) w hc0 hm hx0 (by omega) hl0 b0.1 b0.2 (by omega) d2 n2 hx1 b1.1 b1.2 (m1.1.trans t1) (m1.2.trans (by rw [t1]; rfl)) (utf_next.size (utf_next.two l0)) ⟨utf_next.size_f _⟩ (beq_iff_eq.mpr hs)
        · rw [if_neg (fun h => hs h.2.2)]
          exact utf_next.odd2 A0 c0 l0.length x hA (rd l0 0) (rd l0 1) w hc0 hm hx0 (by omega) hl0 b0.1 b0.2 (by omega) d2 n2 hx1 b1.1 b1.2 (m1.1.trans t1) (m1.2.trans (by rw [t1]; rfl)) (utf_next.size (utf_next.two l0)) ⟨utf_next.size_f _⟩ (beq_eq_false_iff_ne.mpr hs)
      · rw [if_neg (fun h => t1 h.2.1)]
        exact utf_next.bad21 A0 c0 l0.length x hA (rd l0 0) (rd l0 1) w hc0 hm hx0 (by omega) hl0 b0.1 b0.2 (by omega) d2 n2 hx1 b1.1 b1.2 (m1.1.trans (Bool.eq_false_iff.mpr t1)) (m1.2.trans (by rw [Bool.eq_false_iff.mpr t1]; rfl))
    · rw [if_neg (fun h => n2 h.1)]
      exact utf_next.short2 A0 c0 l0.length x hA (rd l0 0) w hc0 hm hx0 (by omega) hl0 b0.1 b0.2 (by omega) d2 (by omega)
  rw [if_neg d2]
  by_cases d3 : rd l0 0 < 240
  · rw [if_pos d3]
    by_cases n3 : 3 ≤ l0.length
    · have b1 : 0 ≤ rd l0 1 ∧ rd l0 1 ≤ 255 := hb 1 (by omega) (by omega)
      have hx1 := cell 1 (by omega) (by omega)
      have m1 := utf_next.mask (rd l0 1) b1.1 b1.2
      by_cases t1 : utf_next.cont (rd l0 1) = true
      · have b2 : 0 ≤ rd l0 2 ∧ rd l0 2 ≤ 255 := hb 2 (by omega) (by omega)
        have hx2 := cell 2 (by omega) (by omega)
        have m2 := utf_next.mask (rd l0 2) b2.1 b2.2
        by_cases t2 : utf_next.cont (rd l0 2) = true
        · by_cases hs : utf_next.size (utf_next.three l0) = 3
          · rw [if_pos ⟨n3, t1, t2, hs⟩]
            exact utf_next.good3 A0 c0 l0.length x hA (rd l0 0) (rd l0 1) (rd l0 2) w hc0 hm hx0 (by omega) hl0 b0.1 b0.2 (by omega) d3 n3 hx1 b1.1 b1.2 hx2 b2.1 b2.2 (m1.1.trans t1) (m1.2.trans (by rw [t1]; rfl)) (m2.1.trans t2) (m2.2.trans (by rw [t2]; rfl)) (utf_next.size (utf_next.three l0)) ⟨utf_next.size_f _⟩ (beq_iff_eq.mpr hs)
          · rw [if_neg (fun h => hs h.2.2.2)]
            exact utf_next.odd3 A0 c0 l0.length x hA (rd l0 0) (rd l0 1) (rd l0 2) w hc0 hm hx0 (by omega) hl0 b0.1 b0.2 (by omega) d3 n3 hx1 b1.1 b1.2 hx2 b2.1 b2.2 (m1.1.trans t1) (m1.2.trans (by rw [t1]; rfl)) (m2.1.trans t2) (m2.2.trans (by rw [t2]; rfl)) (utf_next.size (utf_next.three l0)) ⟨utf_next.size_f _⟩ (beq_eq_false_iff_ne.mpr hs)
        · rw [if_neg (fun h => t2 h.2.2.1)]
          exact utf_next.bad32 A0 c0 l0.length x hA (rd l0 0) (rd l0 1) (rd l0 2) w hc0 hm hx0 (by omega) hl0 b0.1 b0.2 (by omega) d3 n3 hx1 b1.1 b1.2 hx2 b2.1 b2.2 (m1.1.trans t1) (m1.2.trans (by rw [t1]; rfl)) (m2.1.trans (Bool.eq_false_iff.mpr t2)) (m2.2.trans (by rw [Bool.eq_false_iff.mpr t2]; rfl))
      · rw [if_neg (fun h => t1 h.2.1)]
        exact utf_next.bad31 A0 c0 l0.length x hA (rd l0 0) (rd l0 1) w hc0 hm hx0 (by omega) hl0 b0.1 b0.2 (by omega) d3 n3 hx1 b1.1 b1.2 (m1.1.trans (Bool.eq_false_iff.mpr t1)) (m1.2.trans (by rw [Bool.eq_false_iff.mpr t1]; rfl))
    · rw [if_neg (fun h => n3 h.1)]
      exact utf_next.short3 A0 c0 l0.length x hA (rd l0 0) w hc0 hm hx0 (by omega) hl0 b0.1 b0.2 (by omega) d3 (by omega)
  rw [if_neg d3]
  by_cases d4 : rd l0 0 < 248
  · rw [if_pos d4]
    by_cases n4 : 4 ≤ l0.length
    · have b1 : 0 ≤ rd l0 1 ∧ rd l0 1 ≤ 255 := hb 1 (by omega) (by omega)
      have hx1 := cell 1 (by omega) (by omega)
      have m1 := utf_next.mask (rd l0 1) b1.1 b1.2
      by_cases t1 : utf_next.cont (rd l0 1) = true
      · have b2 : 0 ≤ rd l0 2 ∧ rd l0 2 ≤ 255 := hb 2 (by omega) (by omega)
        have hx2 := cell 2 (by omega) (by omega)
        have m2 := utf_next.mask (rd l0 2) b2.1 b2.2
        by_cases t2 : utf_next.cont (rd l0 2) = true
        · have b3 : 0 ≤ rd l0 3 ∧ rd l0 3 ≤ 255 := hb 3 (by omega) (by omega)
          have hx3 := cell 3 (by omega) (by omega)
          have m3 := utf_next.mask (rd l0 3) b3.1 b3.2
          by_cases t3 : utf_next.cont (rd l0 3) = true
          · by_cases hs : utf_next.size (utf_next.four l0) = 4
            · rw [if_pos ⟨n4, t1, t2, t3, hs⟩]
              exact utf_next.good4 A0 c0 l0.length x hA (rd l0 0) (rd l0 1) (rd l0 2) (rd l0 3) w hc0 hm hx0 (by omega) hl0 b0.1 b0.2 (by omega) d4 n4 hx1 b1.1 b1.2 hx2 b2.1 b2.2 hx3 b3.1 b3.2 (m1.1.trans t1) (m1.2.trans (by rw [t1]; rfl)) (m2.1.trans t2) (m2.2.trans (by rw [t2]; rfl)) (m3.1.trans t3) (m3.2.trans (by rw [t3]; rfl)) (utf_next.size (utf_next.four l0)) ⟨utf_next.size_f _⟩ (beq_iff_eq.mpr hs)
            · rw [if_neg (fun h => hs h.2.2.2.2)]
              exact utf_next.odd4 A0 c0 l0.length x hA (rd l0 0) (rd l0 1) (rd l0 2) (rd l0 3) w hc0 hm hx0 (by omega) hl0 b0.1 b0.2 (by omega) d4 n4 hx1 b1.1 b1.2 hx2 b2.1 b2.2 hx3 b3.1 b3.2 (m1.1.trans t1) (m1.2.trans (by rw [t1]; rfl)) (m2.1.trans t2) (m2.2.trans (by rw [t2]; rfl)) (m3.1.trans t3) (m3.2.trans (by rw [t3]; rfl)) (utf_next.size (utf_next.four l0)) ⟨utf_next.size_f _⟩ (beq_eq_false_iff_ne.mpr hs)
          · rw [if_neg (fun h => t3 h.2.2.2.1)]
            exact utf_next.bad43 A0 c0 l0.length x hA (rd l0 0) (rd l0 1) (rd l0 2) (rd l0 3) w hc0 hm hx0 (by omega) hl0 b0.1 b0.2 (by omega) d4 n4 hx1 b1.1 b1.2 hx2 b2.1 b2.2 hx3 b3.1 b3.2 (m1.1.trans t1) (m1.2.trans (by rw [t1]; rfl)) (m2.1.trans t2) (m2.2.trans (by rw [t2]; rfl)) (m3.1.trans (Bool.eq_false_iff.mpr t3)) (m3.2.trans (by rw [Bool.eq_false_iff.mpr t3]; rfl))
        · rw [if_neg (fun h => t2 h.2.2.1)]
          exact utf_next.bad42 A0 c0 l0.length x hA (rd l0 0) (rd l0 1) (rd l0 2) w hc0 hm hx0 (by omega) hl0 b0.1 b0.2 (by omega) d4 n4 hx1 b1.1 b1.2 hx2 b2.1 b2.2 (m1.1.trans t1) (m1.2.trans (by rw [t1]; rfl)) (m2.1.trans (Bool.eq_false_iff.mpr t2)) (m2.2.trans (by rw [Bool.eq_false_iff.mpr t2]; rfl))
      · rw [if_neg (fun h => t1 h.2.1)]
        exact utf_next.bad41 A0 c0 l0.length x hA (rd l0 0) (rd l0 1) w hc0 hm hx0 (by omega) hl0 b0.1 b0.2 (by omega) d4 n4 hx1 b1.1 b1.2 (m1.1.trans (Bool.eq_false_iff.mpr t1)) (m1.2.trans (by rw [Bool.eq_false_iff.mpr t1]; rfl))
    · rw [if_neg (fun h => n4 h.1)]
      exact utf_next.short4 A0 c0 l0.length x hA (rd l0 0) w hc0 hm hx0 (by omega) hl0 b0.1 b0.2 (by omega) d4 (by omega)
  rw [if_neg d4]
  exact utf_next.high A0 c0 l0.length x hA (rd l0 0) w hc0 hm hx0 (by omega) hl0 b0.1 b0.2 (by omega)
theorem utf_next.calls (A0 : Option Addr) (c0 : Nat) (l0 : List Int) (r1 : Int) (r2 : Int) (w : World) (hr0 : Kd.C (Kd.int .u8) w A0 l0.length l0) (hc0 : l0.length ≤ c0) (h : utf_next.f l0 = some (r1, r2)) :
    Calls Try.prog 24 #[.slice A0 l0.length c0] w fun e w' => e = .returned (.tuple #[.int .i32 r1, .int .i64 r2]) ∧ Drawn0 w w' := by
  unfold utf_next.f at h
  split at h
  · rename_i hg
    have hp := Option.some.inj h
    have := utf_next.all A0 c0 l0 w hr0 hc0 hg.1 hg.2
    rw [hp] at this
    exact this
  · cases h

end Go.Proofs.Ytbdhclhioeeanaa.PU
