/- A number less than 2^40 is recovered from its lower 32 bits and any base within 2^31 of it: for all ints n, d (reduced as the law reduces them). No condition. -/
import Derived.Test.YtbaccojgdbaeoaaPSeqUnwrapsx1
import Derived.Test.YtbaccojgdbaeoaaMine
namespace Go.Proofs.Ytbaccojgdbaeoaa.Pure
open Go.RowKit Go.Proofs.Ytbaccojgdbaeoaa.PSeqUnwraps Go.Proofs.YtbaccojgdbaeoaaW.PrintWords Go.Proofs.YtbaccojgdbaeoaaW.PrintLast
open Go.Proofs.Ytbaccojgdbaeoaa.Mine

theorem fact_unwraps : patchbaykeep3_seqFact.f = some true := by decide +kernel

theorem SeqUnwraps : patchbaykeep3_SeqUnwraps.Pure := by
  intro n d hn hd
  refine ⟨1, ?_⟩
  unfold patchbaykeep3_SeqUnwraps.f
  rw [fact_unwraps]
  simp only [patchbaykeep3_rest.f, if_true, Option.bind_some]
  rw [rest_eq (by omega) (by omega), rest_eq (by omega) (by omega)]
  have h1 := @rst_bd n 1099511627776 (by omega)
  have h2 := @rst_bd d 4294967296 (by omega)
  simp only [Option.bind_some]
  generalize rst n 1099511627776 = x at *
  generalize rst d 4294967296 = y at *
  rw [wrap64_in (n := x + y) (by omega), wrap64_in (n := x + y - 2147483648) (by omega), wrap64_in (n := x + y - 2147483648 + 1) (by omega)]
  by_cases hb : x + y - 2147483648 + 1 < 0
  · rw [if_pos hb]
  rw [if_neg hb]
  by_cases hc : x + y - 2147483648 + 1 > 1099511627776
  · rw [if_pos hc]
  rw [if_neg hc]
  unfold seq_Unwrap.f
  rw [if_neg hb]
  have e1 : (Int.tmod x 4294967296) % 4294967296 = x % 4294967296 := by rw [Int.tmod_eq_emod_of_nonneg (by omega)]; omega
  have e2 : (Int.tmod (x + y - 2147483648 + 1) 4294967296) % 4294967296 = (x + y - 2147483648 + 1) % 4294967296 := by rw [Int.tmod_eq_emod_of_nonneg (by omega)]; omega
  have hf : decide (x + y - 2147483648 + 1 > 1099511627776) = false := by simpa using hc
  simp only [seq_Unwrap.j0, hf, seq_Diff.f, e1, e2, Option.bind_some, Bool.false_eq_true, if_false]
  have hw : wrap64 (x + y - 2147483648 + 1 + wrap64 (wrap32 ((x % 4294967296 - (x + y - 2147483648 + 1) % 4294967296) % 4294967296))) = x := by
    unfold wrap64 wrap32
    omega
  rw [hw, if_neg (by omega)]
  simp

end Go.Proofs.Ytbaccojgdbaeoaa.Pure
