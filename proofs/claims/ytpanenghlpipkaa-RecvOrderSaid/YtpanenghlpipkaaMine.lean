/- Bounds of Go's whole numbers and the remainder function 'rest', as used by the proofs of this seat. -/
import Derived.Test.YtpanenghlpipkaaWMore
import Derived.Test.YtpanenghlpipkaaWLast
namespace Go.Proofs.Ytpanenghlpipkaa.Mine
open Go.RowKit

theorem u32b {n : Int} (h : (Lit.int .u32 n).wf = true) : 0 ≤ n ∧ n ≤ 4294967295 := by
  have h1 : IntKind.u32.min = 0 := by decide
  have h2 : IntKind.u32.max = 4294967295 := by decide
  simp [Lit.wf] at h
  omega

theorem i64b {n : Int} (h : (Lit.int .i64 n).wf = true) : -9223372036854775808 ≤ n ∧ n ≤ 9223372036854775807 := by
  have h1 : IntKind.i64.min = -9223372036854775808 := by decide
  have h2 : IntKind.i64.max = 9223372036854775807 := by decide
  simp [Lit.wf] at h
  omega

/-- The remainder of n, from 0 to m - 1. -/
def rst (n m : Int) : Int := if Int.tmod n m < 0 then Int.tmod n m + m else Int.tmod n m

theorem rst_bd {n m : Int} (hm : 0 < m) : 0 ≤ rst n m ∧ rst n m < m := by
  have h1 : Int.tmod n m < m := Int.tmod_lt_of_pos n hm
  have h2 : -m < Int.tmod n m := by
    have h := Int.tmod_lt_of_pos (-n) hm
    rw [Int.neg_tmod] at h
    omega
  unfold rst
  split <;> omega

theorem wrap64_in {n : Int} (h : -9223372036854775808 ≤ n ∧ n ≤ 9223372036854775807) : wrap64 n = n := by
  unfold wrap64; omega

theorem rest_eq {n m : Int} (h0 : 0 < m) (h1 : m ≤ 9223372036854775807) :
    (if m = 0 then (none : Option Int) else (if (Int.tmod n m) < 0 then (some (wrap64 ((Int.tmod n m) + m))) else (some (Int.tmod n m)))) = some (rst n m) := by
  have hb := @rst_bd n m h0
  rw [if_neg (by omega)]
  unfold rst at hb ⊢
  split
  · rename_i h
    rw [if_pos h] at hb
    rw [wrap64_in (by omega)]
  · rfl

end Go.Proofs.Ytpanenghlpipkaa.Mine
