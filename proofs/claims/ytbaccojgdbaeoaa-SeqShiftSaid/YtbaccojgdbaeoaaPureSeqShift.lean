/- Adding the same number to both operands does not change their difference: for all a, b of 32 bits and every int n. No condition. -/
import Derived.Test.YtbaccojgdbaeoaaPSeqShiftx1
import Derived.Test.YtbaccojgdbaeoaaMine
namespace Go.Proofs.Ytbaccojgdbaeoaa.Pure
open Go.RowKit Go.Proofs.Ytbaccojgdbaeoaa.PSeqShift Go.Proofs.YtbaccojgdbaeoaaW.PrintWords Go.Proofs.YtbaccojgdbaeoaaW.PrintLast
open Go.Proofs.Ytbaccojgdbaeoaa.Mine

theorem fact_shift : patchbaykeep3_seqFact.f = some true := by decide +kernel

theorem SeqShift : patchbaykeep3_SeqShift.Pure := by
  intro a b n ha hb hn
  unfold patchbaykeep3_SeqShift.f
  rw [fact_shift]
  simp only [seq_Diff.f, seq_Add.f, Option.bind_some, if_true]
  have h : ((a + n % 4294967296) % 4294967296 - (b + n % 4294967296) % 4294967296) % 4294967296 = (a - b) % 4294967296 := by omega
  rw [h]
  simp

end Go.Proofs.Ytbaccojgdbaeoaa.Pure
