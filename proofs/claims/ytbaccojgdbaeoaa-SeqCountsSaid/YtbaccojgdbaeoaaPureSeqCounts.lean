/- Of the numbers from, from + 1, .. just the first n are in a range of n numbers: for every number of 32 bits and all ints n, k (reduced as the law reduces them). No condition. -/
import Derived.Test.YtbaccojgdbaeoaaPSeqCountsx1
import Derived.Test.YtbaccojgdbaeoaaMine
namespace Go.Proofs.Ytbaccojgdbaeoaa.Pure
open Go.RowKit Go.Proofs.Ytbaccojgdbaeoaa.PSeqCounts Go.Proofs.YtbaccojgdbaeoaaW.PrintWords Go.Proofs.YtbaccojgdbaeoaaW.PrintLast
open Go.Proofs.Ytbaccojgdbaeoaa.Mine

theorem fact_counts : patchbaykeep3_seqFact.f = some true := by decide +kernel

theorem SeqCounts : patchbaykeep3_SeqCounts.Pure := by
  intro a n k ha hn hk
  have ha := u32b ha
  unfold patchbaykeep3_SeqCounts.f
  rw [fact_counts]
  simp only [patchbaykeep3_rest.f, if_true, Option.bind_some]
  rw [rest_eq (by omega) (by omega), rest_eq (by omega) (by omega)]
  have h1 := @rst_bd n 5000 (by omega)
  have h2 := @rst_bd k 10000 (by omega)
  simp only [seq_Add.f, seq_In.f, Option.bind_some]
  generalize rst n 5000 = x at *
  generalize rst k 10000 = y at *
  have h : ((a + y % 4294967296) % 4294967296 - a) % 4294967296 = y := by omega
  rw [h]
  simp

end Go.Proofs.Ytbaccojgdbaeoaa.Pure
