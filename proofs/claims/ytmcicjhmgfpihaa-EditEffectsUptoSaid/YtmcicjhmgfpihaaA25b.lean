import Derived.Test.YtmcicjhmgfpihaaA24
namespace Go.Proofs.YtmcicjhmgfpihaaG
open Go Go.RowKit Go.Proofs
theorem kind12 (k : Int) : IntKind.i64.wrap (1 + bitI .and .i64 k 1) = 1 ∨ IntKind.i64.wrap (1 + bitI .and .i64 k 1) = 2 := by
  have h : bitI .and .i64 k 1 = 0 ∨ bitI .and .i64 k 1 = 1 := by
    simp only [bitI]
    have e : (BitVec.ofInt IntKind.i64.bits k &&& BitVec.ofInt IntKind.i64.bits 1).toNat = (BitVec.ofInt IntKind.i64.bits k).toNat % 2 := by
      rw [BitVec.toNat_and, show (BitVec.ofInt IntKind.i64.bits 1).toNat = 1 from rfl, Nat.and_one_is_mod]
    rw [e]
    rcases Nat.mod_two_eq_zero_or_one (BitVec.ofInt IntKind.i64.bits k).toNat with h | h <;> rw [h]
    · exact .inl (by decide)
    · exact .inr (by decide)
  rcases h with h | h <;> rw [h] <;> decide
end Go.Proofs.YtmcicjhmgfpihaaG
