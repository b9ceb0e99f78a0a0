/-
  No cell of these rows narrows 'for every input' (looked for: loops, veiled, ifaces, maps, wideKeys, modest, calm, conditions, laid).
  DERIVED. THE GIVEN ROWS OF THIS SEAT. 8 by the template 'for every input the law returns true; each argument reads behind the call as it read before'; 0 by the template 'total and deterministic' (their statements: YtbaccojgdbaeoaaTotals.lean).
  GIVEN WITH THE SEED: the statements are not yours to turn. If you find one false, say at which input.
  Laid BY PROGRAM, IN A SANDBOX (cutbox-rows.mjs): the forced cells as the released guide's own fill.sh prints them over the translation 9cb5ea311f7736c0… (all of the seat's roots in one cut). By AI agents, Wed Nov 11 2026. No macro, syntax, notation, axiom, sorry.
-/
import Derived.Test.YtbaccojgdbaeoaaChecked
import GoSem.Claim
import GoSem.ClaimJoined
import GoSem.ClaimMapViews
import Derived.JoinedTies
import Derived.KernelRfl
namespace Go.Proofs.Ytbaccojgdbaeoaa
/- THE CELL 'sum', in the pinned program and in every row, IS THE sha256 OF THE DUMP (.gsa) THAT YtbaccojgdbaeoaaProg.lean LOADS. Nothing in Lean hashes anything: it is a label: what it is worth is what the hold of that sum in a sandbox is worth. -/
noncomputable def Try.pinned : Pinned := { name := "ytbaccojgdbaeoaa", sum := "9cb5ea311f7736c003cf29bcf51fdcc89e9773a8f88ccf3fadc30368e53e75da", checked := Try.checked }
namespace Rows
def none {H : Type} : Left H := { results := [], args := [] }

/-- 'patchbaykeep3.SeqShift': WHATEVER THE INPUT: true; the input reads as it did. -/
def seqShiftSpec : ChangeSpec := { name := "seqShift", fn := fun _ => fun
  | [d1, d2, d3] => { results := [.lit (.bool true)], args := [d1, d2, d3] }
  | _ => none }
def seqShiftRow : OpenClaim := { program := "ytbaccojgdbaeoaa", sum := "9cb5ea311f7736c003cf29bcf51fdcc89e9773a8f88ccf3fadc30368e53e75da", func := "patchbay/patchbaykeep3.SeqShift", spec := "seqShift", apart := false }
def SeqShiftSaid : Prop := seqShiftRow.holds Try.pinned (OpenSpec.ofChange seqShiftSpec)

/-- ITS FALSE NEIGHBOUR: 'it returns false'. Refute it at one input. -/
def seqShiftWrong : ChangeSpec := { name := "seqShift", fn := fun _ => fun
  | [d1, d2, d3] => { results := [.lit (.bool false)], args := [d1, d2, d3] }
  | _ => none }
def SeqShiftWrongFalsely : Prop := seqShiftRow.holds Try.pinned (OpenSpec.ofChange seqShiftWrong)

/-- 'patchbaykeep3.SeqOrder': WHATEVER THE INPUT: true; the input reads as it did. -/
def seqOrderSpec : ChangeSpec := { name := "seqOrder", fn := fun _ => fun
  | [d1, d2] => { results := [.lit (.bool true)], args := [d1, d2] }
  | _ => none }
def seqOrderRow : OpenClaim := { program := "ytbaccojgdbaeoaa", sum := "9cb5ea311f7736c003cf29bcf51fdcc89e9773a8f88ccf3fadc30368e53e75da", func := "patchbay/patchbaykeep3.SeqOrder", spec := "seqOrder", apart := false }
def SeqOrderSaid : Prop := seqOrderRow.holds Try.pinned (OpenSpec.ofChange seqOrderSpec)

/-- ITS FALSE NEIGHBOUR: 'it returns false'. Refute it at one input. -/
def seqOrderWrong : ChangeSpec := { name := "seqOrder", fn := fun _ => fun
  | [d1, d2] => { results := [.lit (.bool false)], args := [d1, d2] }
  | _ => none }
def SeqOrderWrongFalsely : Prop := seqOrderRow.holds Try.pinned (OpenSpec.ofChange seqOrderWrong)

/-- 'patchbaykeep3.SeqCounts': WHATEVER THE INPUT: true; the input reads as it did. -/
def seqCountsSpec : ChangeSpec := { name := "seqCounts", fn := fun _ => fun
  | [d1, d2, d3] => { results := [.lit (.bool true)], args := [d1, d2, d3] }
  | _ => none }
def seqCountsRow : OpenClaim := { program := "ytbaccojgdbaeoaa", sum := "9cb5ea311f7736c003cf29bcf51fdcc89e9773a8f88ccf3fadc30368e53e75da", func := "patchbay/patchbaykeep3.SeqCounts", spec := "seqCounts", apart := false }
def SeqCountsSaid : Prop := seqCountsRow.holds Try.pinned (OpenSpec.ofChange seqCountsSpec)

/-- ITS FALSE NEIGHBOUR: 'it returns false'. Refute it at one input. -/
def seqCountsWrong : ChangeSpec := { name := "seqCounts", fn := fun _ => fun
  | [d1, d2, d3] => { results := [.lit (.bool false)], args := [d1, d2, d3] }
  | _ => none }
def SeqCountsWrongFalsely : Prop := seqCountsRow.holds Try.pinned (OpenSpec.ofChange seqCountsWrong)

/-- 'patchbaykeep3.SeqUnwraps': WHATEVER THE INPUT: true; the input reads as it did. -/
def seqUnwrapsSpec : ChangeSpec := { name := "seqUnwraps", fn := fun _ => fun
  | [d1, d2] => { results := [.lit (.bool true)], args := [d1, d2] }
  | _ => none }
def seqUnwrapsRow : OpenClaim := { program := "ytbaccojgdbaeoaa", sum := "9cb5ea311f7736c003cf29bcf51fdcc89e9773a8f88ccf3fadc30368e53e75da", func := "patchbay/patchbaykeep3.SeqUnwraps", spec := "seqUnwraps", apart := false }
def SeqUnwrapsSaid : Prop := seqUnwrapsRow.holds Try.pinned (OpenSpec.ofChange seqUnwrapsSpec)

/-- ITS FALSE NEIGHBOUR: 'it returns false'. Refute it at one input. -/
def seqUnwrapsWrong : ChangeSpec := { name := "seqUnwraps", fn := fun _ => fun
  | [d1, d2] => { results := [.lit (.bool false)], args := [d1, d2] }
  | _ => none }
def SeqUnwrapsWrongFalsely : Prop := seqUnwrapsRow.holds Try.pinned (OpenSpec.ofChange seqUnwrapsWrong)

/-- 'patchbaykeep3.TripSteady': WHATEVER THE INPUT: true; the input reads as it did. -/
def tripSteadySpec : ChangeSpec := { name := "tripSteady", fn := fun _ => fun
  | [d1, d2] => { results := [.lit (.bool true)], args := [d1, d2] }
  | _ => none }
def tripSteadyRow : OpenClaim := { program := "ytbaccojgdbaeoaa", sum := "9cb5ea311f7736c003cf29bcf51fdcc89e9773a8f88ccf3fadc30368e53e75da", func := "patchbay/patchbaykeep3.TripSteady", spec := "tripSteady", apart := false }
def TripSteadySaid : Prop := tripSteadyRow.holds Try.pinned (OpenSpec.ofChange tripSteadySpec)

/-- ITS FALSE NEIGHBOUR: 'it returns false'. Refute it at one input. -/
def tripSteadyWrong : ChangeSpec := { name := "tripSteady", fn := fun _ => fun
  | [d1, d2] => { results := [.lit (.bool false)], args := [d1, d2] }
  | _ => none }
def TripSteadyWrongFalsely : Prop := tripSteadyRow.holds Try.pinned (OpenSpec.ofChange tripSteadyWrong)

/-- 'patchbaykeep3.TripRises': WHATEVER THE INPUT: true; the input reads as it did. -/
def tripRisesSpec : ChangeSpec := { name := "tripRises", fn := fun _ => fun
  | [d1, d2] => { results := [.lit (.bool true)], args := [d1, d2] }
  | _ => none }
def tripRisesRow : OpenClaim := { program := "ytbaccojgdbaeoaa", sum := "9cb5ea311f7736c003cf29bcf51fdcc89e9773a8f88ccf3fadc30368e53e75da", func := "patchbay/patchbaykeep3.TripRises", spec := "tripRises", apart := false }
def TripRisesSaid : Prop := tripRisesRow.holds Try.pinned (OpenSpec.ofChange tripRisesSpec)

/-- ITS FALSE NEIGHBOUR: 'it returns false'. Refute it at one input. -/
def tripRisesWrong : ChangeSpec := { name := "tripRises", fn := fun _ => fun
  | [d1, d2] => { results := [.lit (.bool false)], args := [d1, d2] }
  | _ => none }
def TripRisesWrongFalsely : Prop := tripRisesRow.holds Try.pinned (OpenSpec.ofChange tripRisesWrong)

/-- 'patchbaykeep3.TripBounds': WHATEVER THE INPUT: true; the input reads as it did. -/
def tripBoundsSpec : ChangeSpec := { name := "tripBounds", fn := fun _ => fun
  | [d1, d2] => { results := [.lit (.bool true)], args := [d1, d2] }
  | _ => none }
def tripBoundsRow : OpenClaim := { program := "ytbaccojgdbaeoaa", sum := "9cb5ea311f7736c003cf29bcf51fdcc89e9773a8f88ccf3fadc30368e53e75da", func := "patchbay/patchbaykeep3.TripBounds", spec := "tripBounds", apart := false }
def TripBoundsSaid : Prop := tripBoundsRow.holds Try.pinned (OpenSpec.ofChange tripBoundsSpec)

/-- ITS FALSE NEIGHBOUR: 'it returns false'. Refute it at one input. -/
def tripBoundsWrong : ChangeSpec := { name := "tripBounds", fn := fun _ => fun
  | [d1, d2] => { results := [.lit (.bool false)], args := [d1, d2] }
  | _ => none }
def TripBoundsWrongFalsely : Prop := tripBoundsRow.holds Try.pinned (OpenSpec.ofChange tripBoundsWrong)

/-- 'patchbaykeep3.TripDoubles': WHATEVER THE INPUT: true; the input reads as it did. -/
def tripDoublesSpec : ChangeSpec := { name := "tripDoubles", fn := fun _ => fun
  | [d1, d2, d3] => { results := [.lit (.bool true)], args := [d1, d2, d3] }
  | _ => none }
def tripDoublesRow : OpenClaim := { program := "ytbaccojgdbaeoaa", sum := "9cb5ea311f7736c003cf29bcf51fdcc89e9773a8f88ccf3fadc30368e53e75da", func := "patchbay/patchbaykeep3.TripDoubles", spec := "tripDoubles", apart := false }
def TripDoublesSaid : Prop := tripDoublesRow.holds Try.pinned (OpenSpec.ofChange tripDoublesSpec)

/-- ITS FALSE NEIGHBOUR: 'it returns false'. Refute it at one input. -/
def tripDoublesWrong : ChangeSpec := { name := "tripDoubles", fn := fun _ => fun
  | [d1, d2, d3] => { results := [.lit (.bool false)], args := [d1, d2, d3] }
  | _ => none }
def TripDoublesWrongFalsely : Prop := tripDoublesRow.holds Try.pinned (OpenSpec.ofChange tripDoublesWrong)

/- THE SECOND FORM. 'bulk': how many values and letters a reading holds, each counted each time it is reached (what is shared counts as often as it is met; a slice's spare places count too). A statement '..UptoSaid' is the law's where the arguments, and the package variables that the reading takes, are together of bulk at most 1048576: NARROWER than '..Said'. Prove '..Said' where nothing that the law and all that it calls make is longer than what came in: it says more and counts as full. Else prove '..UptoSaid'. A law counts once. -/
mutual
def uptoBulk {H : Type} : DataW H → Nat
  | .lit (.string bytes) => bytes.length + 1
  | .lit _ => 1
  | .nil => 1
  | .ptr d => uptoBulk d + 1
  | .slice elems spare => uptoBulkAll elems + uptoBulkAll spare + 1
  | .agg parts => uptoBulkAll parts + 1
  | .iface _ d => uptoBulk d + 1
  | .map entries => uptoBulkEntries entries + 1
  | .held _ => 1
def uptoBulkAll {H : Type} : List (DataW H) → Nat
  | [] => 0
  | d :: r => uptoBulk d + uptoBulkAll r
def uptoBulkEntries {H : Type} : List (Lit × DataW H) → Nat
  | [] => 0
  | x :: r => uptoBulkEntry x + uptoBulkEntries r
def uptoBulkEntry {H : Type} : Lit × DataW H → Nat
  | (.string bytes, d) => bytes.length + uptoBulk d + 1
  | (_, d) => uptoBulk d + 1
 end
def uptoSmall : (H : Type) → List (DataW H) → Bool := fun _ ds => decide (uptoBulkAll ds ≤ 1048576)
def OpenSpec.upto (s : _root_.Go.ChangeSpec) : _root_.Go.OpenSpec := { _root_.Go.OpenSpec.ofChange s with cond := some uptoSmall }

/-- 'patchbaykeep3.SeqShift', WHERE WHAT IT READS IS OF BULK AT MOST 1048576: true; the input reads as it did. -/
def seqShiftUptoRow : OpenClaim := { program := "ytbaccojgdbaeoaa", sum := "9cb5ea311f7736c003cf29bcf51fdcc89e9773a8f88ccf3fadc30368e53e75da", func := "patchbay/patchbaykeep3.SeqShift", spec := "seqShift", apart := false, narrowed := true }
def SeqShiftUptoSaid : Prop := seqShiftUptoRow.holds Try.pinned (OpenSpec.upto seqShiftSpec)

/-- 'patchbaykeep3.SeqOrder', WHERE WHAT IT READS IS OF BULK AT MOST 1048576: true; the input reads as it did. -/
def seqOrderUptoRow : OpenClaim := { program := "ytbaccojgdbaeoaa", sum := "9cb5ea311f7736c003cf29bcf51fdcc89e9773a8f88ccf3fadc30368e53e75da", func := "patchbay/patchbaykeep3.SeqOrder", spec := "seqOrder", apart := false, narrowed := true }
def SeqOrderUptoSaid : Prop := seqOrderUptoRow.holds Try.pinned (OpenSpec.upto seqOrderSpec)

/-- 'patchbaykeep3.SeqCounts', WHERE WHAT IT READS IS OF BULK AT MOST 1048576: true; the input reads as it did. -/
def seqCountsUptoRow : OpenClaim := { program := "ytbaccojgdbaeoaa", sum := "9cb5ea311f7736c003cf29bcf51fdcc89e9773a8f88ccf3fadc30368e53e75da", func := "patchbay/patchbaykeep3.SeqCounts", spec := "seqCounts", apart := false, narrowed := true }
def SeqCountsUptoSaid : Prop := seqCountsUptoRow.holds Try.pinned (OpenSpec.upto seqCountsSpec)

/-- 'patchbaykeep3.SeqUnwraps', WHERE WHAT IT READS IS OF BULK AT MOST 1048576: true; the input reads as it did. -/
def seqUnwrapsUptoRow : OpenClaim := { program := "ytbaccojgdbaeoaa", sum := "9cb5ea311f7736c003cf29bcf51fdcc89e9773a8f88ccf3fadc30368e53e75da", func := "patchbay/patchbaykeep3.SeqUnwraps", spec := "seqUnwraps", apart := false, narrowed := true }
def SeqUnwrapsUptoSaid : Prop := seqUnwrapsUptoRow.holds Try.pinned (OpenSpec.upto seqUnwrapsSpec)

/-- 'patchbaykeep3.TripSteady', WHERE WHAT IT READS IS OF BULK AT MOST 1048576: true; the input reads as it did. -/
def tripSteadyUptoRow : OpenClaim := { program := "ytbaccojgdbaeoaa", sum := "9cb5ea311f7736c003cf29bcf51fdcc89e9773a8f88ccf3fadc30368e53e75da", func := "patchbay/patchbaykeep3.TripSteady", spec := "tripSteady", apart := false, narrowed := true }
def TripSteadyUptoSaid : Prop := tripSteadyUptoRow.holds Try.pinned (OpenSpec.upto tripSteadySpec)

/-- 'patchbaykeep3.TripRises', WHERE WHAT IT READS IS OF BULK AT MOST 1048576: true; the input reads as it did. -/
def tripRisesUptoRow : OpenClaim := { program := "ytbaccojgdbaeoaa", sum := "9cb5ea311f7736c003cf29bcf51fdcc89e9773a8f88ccf3fadc30368e53e75da", func := "patchbay/patchbaykeep3.TripRises", spec := "tripRises", apart := false, narrowed := true }
def TripRisesUptoSaid : Prop := tripRisesUptoRow.holds Try.pinned (OpenSpec.upto tripRisesSpec)

/-- 'patchbaykeep3.TripBounds', WHERE WHAT IT READS IS OF BULK AT MOST 1048576: true; the input reads as it did. -/
def tripBoundsUptoRow : OpenClaim := { program := "ytbaccojgdbaeoaa", sum := "9cb5ea311f7736c003cf29bcf51fdcc89e9773a8f88ccf3fadc30368e53e75da", func := "patchbay/patchbaykeep3.TripBounds", spec := "tripBounds", apart := false, narrowed := true }
def TripBoundsUptoSaid : Prop := tripBoundsUptoRow.holds Try.pinned (OpenSpec.upto tripBoundsSpec)

/-- 'patchbaykeep3.TripDoubles', WHERE WHAT IT READS IS OF BULK AT MOST 1048576: true; the input reads as it did. -/
def tripDoublesUptoRow : OpenClaim := { program := "ytbaccojgdbaeoaa", sum := "9cb5ea311f7736c003cf29bcf51fdcc89e9773a8f88ccf3fadc30368e53e75da", func := "patchbay/patchbaykeep3.TripDoubles", spec := "tripDoubles", apart := false, narrowed := true }
def TripDoublesUptoSaid : Prop := tripDoublesUptoRow.holds Try.pinned (OpenSpec.upto tripDoublesSpec)

end Rows
end Go.Proofs.Ytbaccojgdbaeoaa
