/-
  No cell of these rows narrows 'for every input' (looked for: loops, veiled, ifaces, maps, wideKeys, modest, calm, conditions, laid).
  DERIVED. THE GIVEN ROWS OF THIS SEAT. 5 by the template 'for every input the law returns true; each argument reads behind the call as it read before'; 0 by the template 'total and deterministic' (their statements: YtpanenghlpipkaaTotals.lean).
  GIVEN WITH THE SEED: the statements are not yours to turn. If you find one false, say at which input.
  Laid BY PROGRAM, IN A SANDBOX (cutbox-rows.mjs): the forced cells as the released guide's own fill.sh prints them over the translation 3d3a1691a6e9648a… (all of the seat's roots in one cut). By AI agents, Wed Nov 11 2026. No macro, syntax, notation, axiom, sorry.
-/
import Derived.Test.YtpanenghlpipkaaChecked
import GoSem.Claim
import GoSem.ClaimJoined
import GoSem.ClaimMapViews
import Derived.JoinedTies
import Derived.KernelRfl
namespace Go.Proofs.Ytpanenghlpipkaa
/- THE CELL 'sum', in the pinned program and in every row, IS THE sha256 OF THE DUMP (.gsa) THAT YtpanenghlpipkaaProg.lean LOADS. Nothing in Lean hashes anything: it is a label: what it is worth is what the hold of that sum in a sandbox is worth. -/
noncomputable def Try.pinned : Pinned := { name := "ytpanenghlpipkaa", sum := "3d3a1691a6e9648a668e5b059a7e5e09262a6c20318925c2555951df13e0a3a9", checked := Try.checked }
namespace Rows
def none {H : Type} : Left H := { results := [], args := [] }

/-- 'patchbaykeep3.RecvApart': WHATEVER THE INPUT: true; the input reads as it did. -/
def recvApartSpec : ChangeSpec := { name := "recvApart", fn := fun _ => fun
  | [d1, d2, d3] => { results := [.lit (.bool true)], args := [d1, d2, d3] }
  | _ => none }
def recvApartRow : OpenClaim := { program := "ytpanenghlpipkaa", sum := "3d3a1691a6e9648a668e5b059a7e5e09262a6c20318925c2555951df13e0a3a9", func := "patchbay/patchbaykeep3.RecvApart", spec := "recvApart", apart := false }
def RecvApartSaid : Prop := recvApartRow.holds Try.pinned (OpenSpec.ofChange recvApartSpec)

/-- ITS FALSE NEIGHBOUR: 'it returns false'. Refute it at one input. -/
def recvApartWrong : ChangeSpec := { name := "recvApart", fn := fun _ => fun
  | [d1, d2, d3] => { results := [.lit (.bool false)], args := [d1, d2, d3] }
  | _ => none }
def RecvApartWrongFalsely : Prop := recvApartRow.holds Try.pinned (OpenSpec.ofChange recvApartWrong)

/-- 'patchbaykeep3.RecvOrder': WHATEVER THE INPUT: true; the input reads as it did. -/
def recvOrderSpec : ChangeSpec := { name := "recvOrder", fn := fun _ => fun
  | [d1, d2, d3, d4] => { results := [.lit (.bool true)], args := [d1, d2, d3, d4] }
  | _ => none }
def recvOrderRow : OpenClaim := { program := "ytpanenghlpipkaa", sum := "3d3a1691a6e9648a668e5b059a7e5e09262a6c20318925c2555951df13e0a3a9", func := "patchbay/patchbaykeep3.RecvOrder", spec := "recvOrder", apart := false }
def RecvOrderSaid : Prop := recvOrderRow.holds Try.pinned (OpenSpec.ofChange recvOrderSpec)

/-- ITS FALSE NEIGHBOUR: 'it returns false'. Refute it at one input. -/
def recvOrderWrong : ChangeSpec := { name := "recvOrder", fn := fun _ => fun
  | [d1, d2, d3, d4] => { results := [.lit (.bool false)], args := [d1, d2, d3, d4] }
  | _ => none }
def RecvOrderWrongFalsely : Prop := recvOrderRow.holds Try.pinned (OpenSpec.ofChange recvOrderWrong)

/-- 'patchbaykeep3.RecvEdge': WHATEVER THE INPUT: true; the input reads as it did. -/
def recvEdgeSpec : ChangeSpec := { name := "recvEdge", fn := fun _ => fun
  | [d1, d2, d3, d4, d5] => { results := [.lit (.bool true)], args := [d1, d2, d3, d4, d5] }
  | _ => none }
def recvEdgeRow : OpenClaim := { program := "ytpanenghlpipkaa", sum := "3d3a1691a6e9648a668e5b059a7e5e09262a6c20318925c2555951df13e0a3a9", func := "patchbay/patchbaykeep3.RecvEdge", spec := "recvEdge", apart := false }
def RecvEdgeSaid : Prop := recvEdgeRow.holds Try.pinned (OpenSpec.ofChange recvEdgeSpec)

/-- ITS FALSE NEIGHBOUR: 'it returns false'. Refute it at one input. -/
def recvEdgeWrong : ChangeSpec := { name := "recvEdge", fn := fun _ => fun
  | [d1, d2, d3, d4, d5] => { results := [.lit (.bool false)], args := [d1, d2, d3, d4, d5] }
  | _ => none }
def RecvEdgeWrongFalsely : Prop := recvEdgeRow.holds Try.pinned (OpenSpec.ofChange recvEdgeWrong)

/-- 'patchbaykeep3.RecvFirst': WHATEVER THE INPUT: true; the input reads as it did. -/
def recvFirstSpec : ChangeSpec := { name := "recvFirst", fn := fun _ => fun
  | [d1, d2, d3, d4] => { results := [.lit (.bool true)], args := [d1, d2, d3, d4] }
  | _ => none }
def recvFirstRow : OpenClaim := { program := "ytpanenghlpipkaa", sum := "3d3a1691a6e9648a668e5b059a7e5e09262a6c20318925c2555951df13e0a3a9", func := "patchbay/patchbaykeep3.RecvFirst", spec := "recvFirst", apart := false }
def RecvFirstSaid : Prop := recvFirstRow.holds Try.pinned (OpenSpec.ofChange recvFirstSpec)

/-- ITS FALSE NEIGHBOUR: 'it returns false'. Refute it at one input. -/
def recvFirstWrong : ChangeSpec := { name := "recvFirst", fn := fun _ => fun
  | [d1, d2, d3, d4] => { results := [.lit (.bool false)], args := [d1, d2, d3, d4] }
  | _ => none }
def RecvFirstWrongFalsely : Prop := recvFirstRow.holds Try.pinned (OpenSpec.ofChange recvFirstWrong)

/-- 'patchbaykeep3.RecvParts': WHATEVER THE INPUT: true; the input reads as it did. -/
def recvPartsSpec : ChangeSpec := { name := "recvParts", fn := fun _ => fun
  | [d1, d2, d3, d4, d5] => { results := [.lit (.bool true)], args := [d1, d2, d3, d4, d5] }
  | _ => none }
def recvPartsRow : OpenClaim := { program := "ytpanenghlpipkaa", sum := "3d3a1691a6e9648a668e5b059a7e5e09262a6c20318925c2555951df13e0a3a9", func := "patchbay/patchbaykeep3.RecvParts", spec := "recvParts", apart := false }
def RecvPartsSaid : Prop := recvPartsRow.holds Try.pinned (OpenSpec.ofChange recvPartsSpec)

/-- ITS FALSE NEIGHBOUR: 'it returns false'. Refute it at one input. -/
def recvPartsWrong : ChangeSpec := { name := "recvParts", fn := fun _ => fun
  | [d1, d2, d3, d4, d5] => { results := [.lit (.bool false)], args := [d1, d2, d3, d4, d5] }
  | _ => none }
def RecvPartsWrongFalsely : Prop := recvPartsRow.holds Try.pinned (OpenSpec.ofChange recvPartsWrong)

/- THE SECOND FORM. 'bulk': how many values and letters a reading holds, each counted each time it is reached (what is shared counts as often as it is met; a slice's spare places count too). A statement '..UptoSaid' is the law's where the arguments, and the package variables that the reading takes, are together of bulk at most 1048576: NARROWER than '..Said'. Prove '..Said' where nothing that the law and all that it calls make is longer than what came in: it says more and counts as full. Else prove '..UptoSaid'. A law counts once. -/
mutual
def uptoBulk {H : Type} : DataW H → Nat
  | .lit (.string bytes) => bytes.length + 1
  | .lit _ => 1
  | .nil => 1
  | .ptr d => uptoBulk d + 1
  | .slice elems spare => uptoBulkAll elems + uptoBulkAll spare + 1
  | .agg parts => uptoBulkAll parts + 1
  | .iface _ d => uptoBulk d + 1
  | .map entries => uptoBulkEntries entries + 1
  | .held _ => 1
def uptoBulkAll {H : Type} : List (DataW H) → Nat
  | [] => 0
  | d :: r => uptoBulk d + uptoBulkAll r
def uptoBulkEntries {H : Type} : List (Lit × DataW H) → Nat
  | [] => 0
  | x :: r => uptoBulkEntry x + uptoBulkEntries r
def uptoBulkEntry {H : Type} : Lit × DataW H → Nat
  | (.string bytes, d) => bytes.length + uptoBulk d + 1
  | (_, d) => uptoBulk d + 1
 end
def uptoSmall : (H : Type) → List (DataW H) → Bool := fun _ ds => decide (uptoBulkAll ds ≤ 1048576)
def OpenSpec.upto (s : _root_.Go.ChangeSpec) : _root_.Go.OpenSpec := { _root_.Go.OpenSpec.ofChange s with cond := some uptoSmall }

/-- 'patchbaykeep3.RecvApart', WHERE WHAT IT READS IS OF BULK AT MOST 1048576: true; the input reads as it did. -/
def recvApartUptoRow : OpenClaim := { program := "ytpanenghlpipkaa", sum := "3d3a1691a6e9648a668e5b059a7e5e09262a6c20318925c2555951df13e0a3a9", func := "patchbay/patchbaykeep3.RecvApart", spec := "recvApart", apart := false, narrowed := true }
def RecvApartUptoSaid : Prop := recvApartUptoRow.holds Try.pinned (OpenSpec.upto recvApartSpec)

/-- 'patchbaykeep3.RecvOrder', WHERE WHAT IT READS IS OF BULK AT MOST 1048576: true; the input reads as it did. -/
def recvOrderUptoRow : OpenClaim := { program := "ytpanenghlpipkaa", sum := "3d3a1691a6e9648a668e5b059a7e5e09262a6c20318925c2555951df13e0a3a9", func := "patchbay/patchbaykeep3.RecvOrder", spec := "recvOrder", apart := false, narrowed := true }
def RecvOrderUptoSaid : Prop := recvOrderUptoRow.holds Try.pinned (OpenSpec.upto recvOrderSpec)

/-- 'patchbaykeep3.RecvEdge', WHERE WHAT IT READS IS OF BULK AT MOST 1048576: true; the input reads as it did. -/
def recvEdgeUptoRow : OpenClaim := { program := "ytpanenghlpipkaa", sum := "3d3a1691a6e9648a668e5b059a7e5e09262a6c20318925c2555951df13e0a3a9", func := "patchbay/patchbaykeep3.RecvEdge", spec := "recvEdge", apart := false, narrowed := true }
def RecvEdgeUptoSaid : Prop := recvEdgeUptoRow.holds Try.pinned (OpenSpec.upto recvEdgeSpec)

/-- 'patchbaykeep3.RecvFirst', WHERE WHAT IT READS IS OF BULK AT MOST 1048576: true; the input reads as it did. -/
def recvFirstUptoRow : OpenClaim := { program := "ytpanenghlpipkaa", sum := "3d3a1691a6e9648a668e5b059a7e5e09262a6c20318925c2555951df13e0a3a9", func := "patchbay/patchbaykeep3.RecvFirst", spec := "recvFirst", apart := false, narrowed := true }
def RecvFirstUptoSaid : Prop := recvFirstUptoRow.holds Try.pinned (OpenSpec.upto recvFirstSpec)

/-- 'patchbaykeep3.RecvParts', WHERE WHAT IT READS IS OF BULK AT MOST 1048576: true; the input reads as it did. -/
def recvPartsUptoRow : OpenClaim := { program := "ytpanenghlpipkaa", sum := "3d3a1691a6e9648a668e5b059a7e5e09262a6c20318925c2555951df13e0a3a9", func := "patchbay/patchbaykeep3.RecvParts", spec := "recvParts", apart := false, narrowed := true }
def RecvPartsUptoSaid : Prop := recvPartsUptoRow.holds Try.pinned (OpenSpec.upto recvPartsSpec)

end Rows
end Go.Proofs.Ytpanenghlpipkaa
