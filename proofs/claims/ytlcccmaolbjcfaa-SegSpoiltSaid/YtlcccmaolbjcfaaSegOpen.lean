/- An argument of type api.Segment, opened to its eight fields, and its slice of blocks as a list. -/
import Derived.Test.YtlcccmaolbjcfaaPSegElsewherex0
import Derived.Lib.SmallJoins
import Derived.Deep.SlicePairs
import Derived.WalkKit
import Derived.ProofKit
import Derived.OpenShut
import Derived.Below
namespace Go.Proofs.Ytlcccmaolbjcfaa.SegOpen
open Go.Joins Go.ChangeShapes Go.WideShapes Go.RowKit Go.Deep Go.Proofs.Ytlcccmaolbjcfaa.PSegElsewhere Go.Proofs.YtlcccmaolbjcfaaW.PrintWords
set_option linter.unusedVariables false

section
variable {H : Type} {enc : TypeId × Value → H} {P : Program} {w : World} {base : Nat} {spare : Nat → Bool} {held : Bool}
theorem array8 {α : Type} {cs : Array α} (h : cs.size = 8) : ∃ c0 c1 c2 c3 c4 c5 c6 c7, cs = #[c0, c1, c2, c3, c4, c5, c6, c7] := by
  obtain ⟨l⟩ := cs
  match l, h with
  | [c0, c1, c2, c3, c4, c5, c6, c7], _ => exact ⟨c0, c1, c2, c3, c4, c5, c6, c7, rfl⟩
theorem list8 {α : Type} {cs : List α} (h : cs.length = 8) : ∃ c0 c1 c2 c3 c4 c5 c6 c7, cs = [c0, c1, c2, c3, c4, c5, c6, c7] := by
  match cs, h with
  | [c0, c1, c2, c3, c4, c5, c6, c7], _ => exact ⟨c0, c1, c2, c3, c4, c5, c6, c7, rfl⟩

theorem open_agg8 {r : Reach} {b0 : Nat} {t : TypeId} {f0 f1 f2 f3 f4 f5 f6 f7 : Field} {v : Value} {d : DataW H} {p : List MemPlace} (hs : P.underlying t = some (.struct #[f0, f1, f2, f3, f4, f5, f6, f7]))
    (hone : oneCellFields P #[f0, f1, f2, f3, f4, f5, f6, f7] = true) (hC : P.cellsOf t = 8)
    (hv : Value.okWide P w r b0 t v) (h : DataW.Trod enc P w base spare held t v d p) :
    ∃ (v0 v1 v2 v3 v4 v5 v6 v7 : Value) (y0 y1 y2 y3 y4 y5 y6 y7 : DataW H × List MemPlace) (n : Nat), v = .agg #[v0, v1, v2, v3, v4, v5, v6, v7] ∧
      DataW.trod enc P w base spare held n f0.type [v0] = some y0 ∧ DataW.trod enc P w base spare held n f1.type [v1] = some y1 ∧ DataW.trod enc P w base spare held n f2.type [v2] = some y2 ∧
      DataW.trod enc P w base spare held n f3.type [v3] = some y3 ∧ DataW.trod enc P w base spare held n f4.type [v4] = some y4 ∧ DataW.trod enc P w base spare held n f5.type [v5] = some y5 ∧
      DataW.trod enc P w base spare held n f6.type [v6] = some y6 ∧ DataW.trod enc P w base spare held n f7.type [v7] = some y7 := by
  obtain ⟨cs, rfl, hsz⟩ := okWide_struct hs hv
  obtain ⟨c0, c1, c2, c3, c4, c5, c6, c7, rfl⟩ := array8 (hsz.trans hC)
  obtain ⟨fuel, hf⟩ := h
  obtain ⟨xs, n, _, hx, _, hlen, hg⟩ := DataW.trod_struct hs hf
  obtain ⟨o0, k0⟩ := hone_of hone 0 f0 rfl
  obtain ⟨o1, k1⟩ := hone_of hone 1 f1 rfl
  obtain ⟨o2, k2⟩ := hone_of hone 2 f2 rfl
  obtain ⟨o3, k3⟩ := hone_of hone 3 f3 rfl
  obtain ⟨o4, k4⟩ := hone_of hone 4 f4 rfl
  obtain ⟨o5, k5⟩ := hone_of hone 5 f5 rfl
  obtain ⟨o6, k6⟩ := hone_of hone 6 f6 rfl
  obtain ⟨o7, k7⟩ := hone_of hone 7 f7 rfl
  obtain ⟨y0, y1, y2, y3, y4, y5, y6, y7, rfl⟩ := list8 hlen
  exact ⟨c0, c1, c2, c3, c4, c5, c6, c7, y0, y1, y2, y3, y4, y5, y6, y7, n, rfl, by simpa [Value.cells, o0, k0] using hg 0 f0 rfl, by simpa [Value.cells, o1, k1] using hg 1 f1 rfl, by simpa [Value.cells, o2, k2] using hg 2 f2 rfl,
    by simpa [Value.cells, o3, k3] using hg 3 f3 rfl, by simpa [Value.cells, o4, k4] using hg 4 f4 rfl, by simpa [Value.cells, o5, k5] using hg 5 f5 rfl, by simpa [Value.cells, o6, k6] using hg 6 f6 rfl, by simpa [Value.cells, o7, k7] using hg 7 f7 rfl⟩

theorem int_cell {t : TypeId} {k : IntKind} {fuel : Nat} {v : Value} {x : DataW H × List MemPlace} (ht : P.underlying t = some (.int k)) (h : DataW.trod enc P w base spare held fuel t [v] = some x) : ∃ n, v = .int k n ∧ (Lit.int k n).wf = true := by
  obtain ⟨n, h1, _, h2⟩ := DataW.trod_int ht h
  exact ⟨n, by simpa using h1, h2⟩

theorem string_cell {t : TypeId} {fuel : Nat} {v : Value} {x : DataW H × List MemPlace} (ht : P.underlying t = some .string) (h : DataW.trod enc P w base spare held fuel t [v] = some x) : ∃ s, v = .string s := by
  obtain ⟨s, h1, _⟩ := DataW.trod_string ht h
  exact ⟨s, by simpa using h1⟩
end

/-- The blocks of a segment that came in, as a list. -/
theorem open_blocks {H : Type} {enc : TypeId × Value → H} {w : World} {base : Nat} {spare : Nat → Bool} {held : Bool} {fuel : Nat} {v : Value} {x : DataW H × List MemPlace}
    (h : DataW.trod enc Try.prog w base spare held fuel 28 [v] = some x) :
    ∃ (A : Option Addr) (c : Nat) (l : List S31), v = .slice A l.length c ∧ l.length ≤ c ∧ Kd.C k31 w A l.length l ∧ ∀ b ∈ l, (Lit.int .u32 b.f0).wf = true ∧ (Lit.int .u32 b.f1).wf = true := by
  rcases open_slice_pairs (e := 31) Try.underlying28 Try.underlying31 (by kernel_rfl) rfl rfl (by kernel_rfl) (by kernel_rfl) h with ⟨hcs, _⟩ | ⟨a, len, cap, m, n, V0, V1, D0, D1, P0, P1, hcs, _, hl, hm, hmm, _, hi⟩
  · refine ⟨none, 0, [], by simpa using hcs, by simp, ⟨rfl, by simp, fun h => absurd h (by simp)⟩, fun b hb => by cases hb⟩
  · have hlm : len ≤ m := by rw [hmm]; split <;> omega
    have each : ∀ i, i < len → ∃ b : S31, w.cell? (a.add (i * 2)) = some (.int .u32 b.f0) ∧ w.cell? (a.add (i * 2 + 1)) = some (.int .u32 b.f1) ∧ (Lit.int .u32 b.f0).wf = true ∧ (Lit.int .u32 b.f1).wf = true := by
      intro i hlt
      obtain ⟨c0, c1, t0, t1⟩ := hi i (by omega)
      obtain ⟨n0, e0, w0⟩ := int_cell Try.underlying26 t0
      obtain ⟨n1, e1, w1⟩ := int_cell Try.underlying26 t1
      exact ⟨⟨n0, n1⟩, by rw [c0, e0], by rw [c1, e1], w0, w1⟩
    haveI : Inhabited S31 := ⟨z31⟩
    obtain ⟨q, hq⟩ := choose_lt each
    refine ⟨some a, cap, (List.range len).map q, by simpa using hcs, by simpa using hl, ⟨by simp, ?_, fun _ => ⟨a, rfl, fun j p hj => ?_⟩⟩, fun b hb => ?_⟩
    · have : maxLen ≤ 9223372036854775807 := by decide
      simp; omega
    · have hjl : j < len := by
        have := (List.getElem?_eq_some_iff.1 hj).1
        simpa using this
      have hp : p = q j := by
        rw [List.getElem?_map, List.getElem?_range hjl] at hj
        simpa using hj.symm
      subst hp
      obtain ⟨c0, c1, _, _⟩ := hq j hjl
      refine ⟨[.int .u32 (q j).f0, .int .u32 (q j).f1], rfl, k31_mk w (q j), fun i u hu => ?_⟩
      match i, hu with
      | 0, hu => obtain rfl := Option.some.inj hu; exact c0
      | 1, hu => obtain rfl := Option.some.inj hu; exact c1
    · obtain ⟨j, hj, rfl⟩ := List.mem_map.mp hb
      exact ⟨(hq j (List.mem_range.mp hj)).2.2.1, (hq j (List.mem_range.mp hj)).2.2.2⟩

/-- A segment that came in. -/
theorem open_segment {H : Type} {enc : TypeId × Value → H} {w : World} {r : Reach} {b0 base : Nat} {spare : Nat → Bool} {held : Bool} {v : Value} {d : DataW H} {p : List MemPlace}
    (hv : Value.okWide Try.prog w r b0 48 v) (h : DataW.Trod enc Try.prog w base spare held 48 v d p) :
    ∃ (src dst seq ack fl win : Int) (A : Option Addr) (c : Nat) (l : List S31) (body : ByteArray),
      v = .agg #[.int .i64 src, .int .i64 dst, .int .u32 seq, .int .u32 ack, .int .i64 fl, .int .i64 win, .slice A l.length c, .string body] ∧ l.length ≤ c ∧ Kd.C k31 w A l.length l ∧
      (Lit.int .i64 src).wf = true ∧ (Lit.int .i64 dst).wf = true ∧ (Lit.int .u32 seq).wf = true ∧ (Lit.int .u32 ack).wf = true ∧ (Lit.int .i64 fl).wf = true ∧ (Lit.int .i64 win).wf = true ∧
      ∀ b ∈ l, (Lit.int .u32 b.f0).wf = true ∧ (Lit.int .u32 b.f1).wf = true := by
  obtain ⟨v0, v1, v2, v3, v4, v5, v6, v7, y0, y1, y2, y3, y4, y5, y6, y7, n, rfl, t0, t1, t2, t3, t4, t5, t6, t7⟩ := open_agg8 Try.underlying48 (by kernel_rfl) (by kernel_rfl) hv h
  obtain ⟨n0, rfl, w0⟩ := int_cell Try.underlying3 t0
  obtain ⟨n1, rfl, w1⟩ := int_cell Try.underlying3 t1
  obtain ⟨n2, rfl, w2⟩ := int_cell Try.underlying26 t2
  obtain ⟨n3, rfl, w3⟩ := int_cell Try.underlying26 t3
  obtain ⟨n4, rfl, w4⟩ := int_cell Try.underlying3 t4
  obtain ⟨n5, rfl, w5⟩ := int_cell Try.underlying3 t5
  obtain ⟨A, c, l, rfl, hl, hC, hw⟩ := open_blocks t6
  obtain ⟨s, rfl⟩ := string_cell Try.underlying9 t7
  exact ⟨n0, n1, n2, n3, n4, n5, A, c, l, s, rfl, hl, hC, w0, w1, w2, w3, w4, w5, hw⟩

end Go.Proofs.Ytlcccmaolbjcfaa.SegOpen
