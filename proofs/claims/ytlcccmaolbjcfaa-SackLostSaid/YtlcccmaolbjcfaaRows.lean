/-
  No cell of these rows narrows 'for every input' (looked for: loops, veiled, ifaces, maps, wideKeys, modest, calm, conditions, laid).
  DERIVED. THE GIVEN ROWS OF THIS SEAT. 8 by the template 'for every input the law returns true; each argument reads behind the call as it read before'; 0 by the template 'total and deterministic' (their statements: YtlcccmaolbjcfaaTotals.lean).
  GIVEN WITH THE SEED: the statements are not yours to turn. If you find one false, say at which input.
  Laid BY PROGRAM, IN A SANDBOX (cutbox-rows.mjs): the forced cells as the released guide's own fill.sh prints them over the translation 8aa952b4c37dc1aa… (all of the seat's roots in one cut). By AI agents, Wed Nov 11 2026. No macro, syntax, notation, axiom, sorry.
-/
import Derived.Test.YtlcccmaolbjcfaaChecked
import GoSem.Claim
import GoSem.ClaimJoined
import GoSem.ClaimMapViews
import Derived.JoinedTies
import Derived.KernelRfl
namespace Go.Proofs.Ytlcccmaolbjcfaa
/- THE CELL 'sum', in the pinned program and in every row, IS THE sha256 OF THE DUMP (.gsa) THAT YtlcccmaolbjcfaaProg.lean LOADS. Nothing in Lean hashes anything: it is a label: what it is worth is what the hold of that sum in a sandbox is worth. -/
noncomputable def Try.pinned : Pinned := { name := "ytlcccmaolbjcfaa", sum := "8aa952b4c37dc1aa22b43dc6164e50603d5b13344e2f848ff018dd1ba00ca965", checked := Try.checked }
namespace Rows
def none {H : Type} : Left H := { results := [], args := [] }

/-- 'patchbaykeep3.SegSums': WHATEVER THE INPUT: true; the input reads as it did. -/
def segSumsSpec : ChangeSpec := { name := "segSums", fn := fun _ => fun
  | [d] => { results := [.lit (.bool true)], args := [d] }
  | _ => none }
def segSumsRow : OpenClaim := { program := "ytlcccmaolbjcfaa", sum := "8aa952b4c37dc1aa22b43dc6164e50603d5b13344e2f848ff018dd1ba00ca965", func := "patchbay/patchbaykeep3.SegSums", spec := "segSums", apart := false }
def SegSumsSaid : Prop := segSumsRow.holds Try.pinned (OpenSpec.ofChange segSumsSpec)

/-- ITS FALSE NEIGHBOUR: 'it returns false'. Refute it at one input. -/
def segSumsWrong : ChangeSpec := { name := "segSums", fn := fun _ => fun
  | [d] => { results := [.lit (.bool false)], args := [d] }
  | _ => none }
def SegSumsWrongFalsely : Prop := segSumsRow.holds Try.pinned (OpenSpec.ofChange segSumsWrong)

/-- 'patchbaykeep3.SackHolds': WHATEVER THE INPUT: true; the input reads as it did. -/
def sackHoldsSpec : ChangeSpec := { name := "sackHolds", fn := fun _ => fun
  | [d1, d2, d3, d4] => { results := [.lit (.bool true)], args := [d1, d2, d3, d4] }
  | _ => none }
def sackHoldsRow : OpenClaim := { program := "ytlcccmaolbjcfaa", sum := "8aa952b4c37dc1aa22b43dc6164e50603d5b13344e2f848ff018dd1ba00ca965", func := "patchbay/patchbaykeep3.SackHolds", spec := "sackHolds", apart := false }
def SackHoldsSaid : Prop := sackHoldsRow.holds Try.pinned (OpenSpec.ofChange sackHoldsSpec)

/-- ITS FALSE NEIGHBOUR: 'it returns false'. Refute it at one input. -/
def sackHoldsWrong : ChangeSpec := { name := "sackHolds", fn := fun _ => fun
  | [d1, d2, d3, d4] => { results := [.lit (.bool false)], args := [d1, d2, d3, d4] }
  | _ => none }
def SackHoldsWrongFalsely : Prop := sackHoldsRow.holds Try.pinned (OpenSpec.ofChange sackHoldsWrong)

/-- 'patchbaykeep3.SackMoves': WHATEVER THE INPUT: true; the input reads as it did. -/
def sackMovesSpec : ChangeSpec := { name := "sackMoves", fn := fun _ => fun
  | [d1, d2, d3, d4, d5] => { results := [.lit (.bool true)], args := [d1, d2, d3, d4, d5] }
  | _ => none }
def sackMovesRow : OpenClaim := { program := "ytlcccmaolbjcfaa", sum := "8aa952b4c37dc1aa22b43dc6164e50603d5b13344e2f848ff018dd1ba00ca965", func := "patchbay/patchbaykeep3.SackMoves", spec := "sackMoves", apart := false }
def SackMovesSaid : Prop := sackMovesRow.holds Try.pinned (OpenSpec.ofChange sackMovesSpec)

/-- ITS FALSE NEIGHBOUR: 'it returns false'. Refute it at one input. -/
def sackMovesWrong : ChangeSpec := { name := "sackMoves", fn := fun _ => fun
  | [d1, d2, d3, d4, d5] => { results := [.lit (.bool false)], args := [d1, d2, d3, d4, d5] }
  | _ => none }
def SackMovesWrongFalsely : Prop := sackMovesRow.holds Try.pinned (OpenSpec.ofChange sackMovesWrong)

/-- 'patchbaykeep3.SackHoles': WHATEVER THE INPUT: true; the input reads as it did. -/
def sackHolesSpec : ChangeSpec := { name := "sackHoles", fn := fun _ => fun
  | [d1, d2, d3, d4] => { results := [.lit (.bool true)], args := [d1, d2, d3, d4] }
  | _ => none }
def sackHolesRow : OpenClaim := { program := "ytlcccmaolbjcfaa", sum := "8aa952b4c37dc1aa22b43dc6164e50603d5b13344e2f848ff018dd1ba00ca965", func := "patchbay/patchbaykeep3.SackHoles", spec := "sackHoles", apart := false }
def SackHolesSaid : Prop := sackHolesRow.holds Try.pinned (OpenSpec.ofChange sackHolesSpec)

/-- ITS FALSE NEIGHBOUR: 'it returns false'. Refute it at one input. -/
def sackHolesWrong : ChangeSpec := { name := "sackHoles", fn := fun _ => fun
  | [d1, d2, d3, d4] => { results := [.lit (.bool false)], args := [d1, d2, d3, d4] }
  | _ => none }
def SackHolesWrongFalsely : Prop := sackHolesRow.holds Try.pinned (OpenSpec.ofChange sackHolesWrong)

/-- 'patchbaykeep3.SegBack': WHATEVER THE INPUT: true; the input reads as it did. -/
def segBackSpec : ChangeSpec := { name := "segBack", fn := fun _ => fun
  | [d1, d2, d3] => { results := [.lit (.bool true)], args := [d1, d2, d3] }
  | _ => none }
def segBackRow : OpenClaim := { program := "ytlcccmaolbjcfaa", sum := "8aa952b4c37dc1aa22b43dc6164e50603d5b13344e2f848ff018dd1ba00ca965", func := "patchbay/patchbaykeep3.SegBack", spec := "segBack", apart := false }
def SegBackSaid : Prop := segBackRow.holds Try.pinned (OpenSpec.ofChange segBackSpec)

/-- ITS FALSE NEIGHBOUR: 'it returns false'. Refute it at one input. -/
def segBackWrong : ChangeSpec := { name := "segBack", fn := fun _ => fun
  | [d1, d2, d3] => { results := [.lit (.bool false)], args := [d1, d2, d3] }
  | _ => none }
def SegBackWrongFalsely : Prop := segBackRow.holds Try.pinned (OpenSpec.ofChange segBackWrong)

/-- 'patchbaykeep3.SegSpoilt': WHATEVER THE INPUT: true; the input reads as it did. -/
def segSpoiltSpec : ChangeSpec := { name := "segSpoilt", fn := fun _ => fun
  | [d1, d2, d3, d4, d5] => { results := [.lit (.bool true)], args := [d1, d2, d3, d4, d5] }
  | _ => none }
def segSpoiltRow : OpenClaim := { program := "ytlcccmaolbjcfaa", sum := "8aa952b4c37dc1aa22b43dc6164e50603d5b13344e2f848ff018dd1ba00ca965", func := "patchbay/patchbaykeep3.SegSpoilt", spec := "segSpoilt", apart := false }
def SegSpoiltSaid : Prop := segSpoiltRow.holds Try.pinned (OpenSpec.ofChange segSpoiltSpec)

/-- ITS FALSE NEIGHBOUR: 'it returns false'. Refute it at one input. -/
def segSpoiltWrong : ChangeSpec := { name := "segSpoilt", fn := fun _ => fun
  | [d1, d2, d3, d4, d5] => { results := [.lit (.bool false)], args := [d1, d2, d3, d4, d5] }
  | _ => none }
def SegSpoiltWrongFalsely : Prop := segSpoiltRow.holds Try.pinned (OpenSpec.ofChange segSpoiltWrong)

/-- 'patchbaykeep3.SegElsewhere': WHATEVER THE INPUT: true; the input reads as it did. -/
def segElsewhereSpec : ChangeSpec := { name := "segElsewhere", fn := fun _ => fun
  | [d1, d2, d3, d4] => { results := [.lit (.bool true)], args := [d1, d2, d3, d4] }
  | _ => none }
def segElsewhereRow : OpenClaim := { program := "ytlcccmaolbjcfaa", sum := "8aa952b4c37dc1aa22b43dc6164e50603d5b13344e2f848ff018dd1ba00ca965", func := "patchbay/patchbaykeep3.SegElsewhere", spec := "segElsewhere", apart := false }
def SegElsewhereSaid : Prop := segElsewhereRow.holds Try.pinned (OpenSpec.ofChange segElsewhereSpec)

/-- ITS FALSE NEIGHBOUR: 'it returns false'. Refute it at one input. -/
def segElsewhereWrong : ChangeSpec := { name := "segElsewhere", fn := fun _ => fun
  | [d1, d2, d3, d4] => { results := [.lit (.bool false)], args := [d1, d2, d3, d4] }
  | _ => none }
def SegElsewhereWrongFalsely : Prop := segElsewhereRow.holds Try.pinned (OpenSpec.ofChange segElsewhereWrong)

/-- 'patchbaykeep3.SackLost': WHATEVER THE INPUT: true; the input reads as it did. -/
def sackLostSpec : ChangeSpec := { name := "sackLost", fn := fun _ => fun
  | [d1, d2, d3, d4] => { results := [.lit (.bool true)], args := [d1, d2, d3, d4] }
  | _ => none }
def sackLostRow : OpenClaim := { program := "ytlcccmaolbjcfaa", sum := "8aa952b4c37dc1aa22b43dc6164e50603d5b13344e2f848ff018dd1ba00ca965", func := "patchbay/patchbaykeep3.SackLost", spec := "sackLost", apart := false }
def SackLostSaid : Prop := sackLostRow.holds Try.pinned (OpenSpec.ofChange sackLostSpec)

/-- ITS FALSE NEIGHBOUR: 'it returns false'. Refute it at one input. -/
def sackLostWrong : ChangeSpec := { name := "sackLost", fn := fun _ => fun
  | [d1, d2, d3, d4] => { results := [.lit (.bool false)], args := [d1, d2, d3, d4] }
  | _ => none }
def SackLostWrongFalsely : Prop := sackLostRow.holds Try.pinned (OpenSpec.ofChange sackLostWrong)

/- THE SECOND FORM. 'bulk': how many values and letters a reading holds, each counted each time it is reached (what is shared counts as often as it is met; a slice's spare places count too). A statement '..UptoSaid' is the law's where the arguments, and the package variables that the reading takes, are together of bulk at most 1048576: NARROWER than '..Said'. Prove '..Said' where nothing that the law and all that it calls make is longer than what came in: it says more and counts as full. Else prove '..UptoSaid'. A law counts once. -/
mutual
def uptoBulk {H : Type} : DataW H → Nat
  | .lit (.string bytes) => bytes.length + 1
  | .lit _ => 1
  | .nil => 1
  | .ptr d => uptoBulk d + 1
  | .slice elems spare => uptoBulkAll elems + uptoBulkAll spare + 1
  | .agg parts => uptoBulkAll parts + 1
  | .iface _ d => uptoBulk d + 1
  | .map entries => uptoBulkEntries entries + 1
  | .held _ => 1
def uptoBulkAll {H : Type} : List (DataW H) → Nat
  | [] => 0
  | d :: r => uptoBulk d + uptoBulkAll r
def uptoBulkEntries {H : Type} : List (Lit × DataW H) → Nat
  | [] => 0
  | x :: r => uptoBulkEntry x + uptoBulkEntries r
def uptoBulkEntry {H : Type} : Lit × DataW H → Nat
  | (.string bytes, d) => bytes.length + uptoBulk d + 1
  | (_, d) => uptoBulk d + 1
 end
def uptoSmall : (H : Type) → List (DataW H) → Bool := fun _ ds => decide (uptoBulkAll ds ≤ 1048576)
def OpenSpec.upto (s : _root_.Go.ChangeSpec) : _root_.Go.OpenSpec := { _root_.Go.OpenSpec.ofChange s with cond := some uptoSmall }

/-- 'patchbaykeep3.SegSums', WHERE WHAT IT READS IS OF BULK AT MOST 1048576: true; the input reads as it did. -/
def segSumsUptoRow : OpenClaim := { program := "ytlcccmaolbjcfaa", sum := "8aa952b4c37dc1aa22b43dc6164e50603d5b13344e2f848ff018dd1ba00ca965", func := "patchbay/patchbaykeep3.SegSums", spec := "segSums", apart := false, narrowed := true }
def SegSumsUptoSaid : Prop := segSumsUptoRow.holds Try.pinned (OpenSpec.upto segSumsSpec)

/-- 'patchbaykeep3.SackHolds', WHERE WHAT IT READS IS OF BULK AT MOST 1048576: true; the input reads as it did. -/
def sackHoldsUptoRow : OpenClaim := { program := "ytlcccmaolbjcfaa", sum := "8aa952b4c37dc1aa22b43dc6164e50603d5b13344e2f848ff018dd1ba00ca965", func := "patchbay/patchbaykeep3.SackHolds", spec := "sackHolds", apart := false, narrowed := true }
def SackHoldsUptoSaid : Prop := sackHoldsUptoRow.holds Try.pinned (OpenSpec.upto sackHoldsSpec)

/-- 'patchbaykeep3.SackMoves', WHERE WHAT IT READS IS OF BULK AT MOST 1048576: true; the input reads as it did. -/
def sackMovesUptoRow : OpenClaim := { program := "ytlcccmaolbjcfaa", sum := "8aa952b4c37dc1aa22b43dc6164e50603d5b13344e2f848ff018dd1ba00ca965", func := "patchbay/patchbaykeep3.SackMoves", spec := "sackMoves", apart := false, narrowed := true }
def SackMovesUptoSaid : Prop := sackMovesUptoRow.holds Try.pinned (OpenSpec.upto sackMovesSpec)

/-- 'patchbaykeep3.SackHoles', WHERE WHAT IT READS IS OF BULK AT MOST 1048576: true; the input reads as it did. -/
def sackHolesUptoRow : OpenClaim := { program := "ytlcccmaolbjcfaa", sum := "8aa952b4c37dc1aa22b43dc6164e50603d5b13344e2f848ff018dd1ba00ca965", func := "patchbay/patchbaykeep3.SackHoles", spec := "sackHoles", apart := false, narrowed := true }
def SackHolesUptoSaid : Prop := sackHolesUptoRow.holds Try.pinned (OpenSpec.upto sackHolesSpec)

/-- 'patchbaykeep3.SegBack', WHERE WHAT IT READS IS OF BULK AT MOST 1048576: true; the input reads as it did. -/
def segBackUptoRow : OpenClaim := { program := "ytlcccmaolbjcfaa", sum := "8aa952b4c37dc1aa22b43dc6164e50603d5b13344e2f848ff018dd1ba00ca965", func := "patchbay/patchbaykeep3.SegBack", spec := "segBack", apart := false, narrowed := true }
def SegBackUptoSaid : Prop := segBackUptoRow.holds Try.pinned (OpenSpec.upto segBackSpec)

/-- 'patchbaykeep3.SegSpoilt', WHERE WHAT IT READS IS OF BULK AT MOST 1048576: true; the input reads as it did. -/
def segSpoiltUptoRow : OpenClaim := { program := "ytlcccmaolbjcfaa", sum := "8aa952b4c37dc1aa22b43dc6164e50603d5b13344e2f848ff018dd1ba00ca965", func := "patchbay/patchbaykeep3.SegSpoilt", spec := "segSpoilt", apart := false, narrowed := true }
def SegSpoiltUptoSaid : Prop := segSpoiltUptoRow.holds Try.pinned (OpenSpec.upto segSpoiltSpec)

/-- 'patchbaykeep3.SegElsewhere', WHERE WHAT IT READS IS OF BULK AT MOST 1048576: true; the input reads as it did. -/
def segElsewhereUptoRow : OpenClaim := { program := "ytlcccmaolbjcfaa", sum := "8aa952b4c37dc1aa22b43dc6164e50603d5b13344e2f848ff018dd1ba00ca965", func := "patchbay/patchbaykeep3.SegElsewhere", spec := "segElsewhere", apart := false, narrowed := true }
def SegElsewhereUptoSaid : Prop := segElsewhereUptoRow.holds Try.pinned (OpenSpec.upto segElsewhereSpec)

/-- 'patchbaykeep3.SackLost', WHERE WHAT IT READS IS OF BULK AT MOST 1048576: true; the input reads as it did. -/
def sackLostUptoRow : OpenClaim := { program := "ytlcccmaolbjcfaa", sum := "8aa952b4c37dc1aa22b43dc6164e50603d5b13344e2f848ff018dd1ba00ca965", func := "patchbay/patchbaykeep3.SackLost", spec := "sackLost", apart := false, narrowed := true }
def SackLostUptoSaid : Prop := sackLostUptoRow.holds Try.pinned (OpenSpec.upto sackLostSpec)

end Rows
end Go.Proofs.Ytlcccmaolbjcfaa
