/- Of two different numbers that are not exactly 2^31 apart, exactly one is less than the other: for all a, b of 32 bits. No condition. -/
import Derived.Test.YtbaccojgdbaeoaaPSeqOrderx1
import Derived.Test.YtbaccojgdbaeoaaMine
namespace Go.Proofs.Ytbaccojgdbaeoaa.Pure
open Go.RowKit Go.Proofs.Ytbaccojgdbaeoaa.PSeqOrder Go.Proofs.YtbaccojgdbaeoaaW.PrintWords Go.Proofs.YtbaccojgdbaeoaaW.PrintLast
open Go.Proofs.Ytbaccojgdbaeoaa.Mine

theorem fact_order : patchbaykeep3_seqFact.f = some true := by decide +kernel

/-- The difference of two numbers of 32 bits, without any wrap around 64 bits. -/
def dif (a b : Int) : Int := (a - b + 2147483648) % 4294967296 - 2147483648

theorem diff_eq (a b : Int) : seq_Diff.f a b = some (dif a b) := by
  unfold seq_Diff.f wrap64 wrap32 dif
  congr 1
  omega

theorem SeqOrder : patchbaykeep3_SeqOrder.Pure := by
  intro a b ha hb
  have ha := u32b ha
  have hb := u32b hb
  unfold patchbaykeep3_SeqOrder.f
  rw [fact_order]
  simp only [seq_Less.f, diff_eq, Option.bind_some, if_true]
  by_cases h : a = b
  · subst h
    have h0 : dif a a = 0 := by unfold dif; omega
    rw [if_pos rfl, h0]
    simp
  · rw [if_neg h]
    by_cases h1 : dif a b < 0
    · by_cases h2 : dif b a < 0
      · have h3 : dif a b = -2147483648 := by unfold dif at *; omega
        simp [h2, h3]
      · simp [h1, h2]
    · by_cases h2 : dif b a < 0
      · simp [h1, h2]
      · exfalso
        unfold dif at *
        omega

end Go.Proofs.Ytbaccojgdbaeoaa.Pure
