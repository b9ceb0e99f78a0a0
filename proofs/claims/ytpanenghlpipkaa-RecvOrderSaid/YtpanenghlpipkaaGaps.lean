/- What Blocks answers: ascending, separated ranges behind a gap. -/
import Derived.Test.YtpanenghlpipkaaHas
namespace Go.Proofs.Ytpanenghlpipkaa.Recv
open Go.RowKit Go.Proofs.Ytpanenghlpipkaa.PRecvOrder
set_option linter.unusedVariables false
set_option linter.unusedSimpArgs false

/-- The places where the ranges begin and end. -/
def runs (there : List Bool) : Nat → Nat → List (Nat × Nat)
  | 0, _ => []
  | n + 1, i => if there.getD i false = true then (i, i + lead (there.drop i)) :: runs there n (i + lead (there.drop i) + 1) else runs there n (i + 1)
def blk (next : Int) (p : Nat × Nat) : S37 := ⟨addq next (p.1 : Int), addq next (p.2 : Int)⟩
theorem blocks_runs (next : Int) (there : List Bool) : ∀ (n i : Nat), blocksFrom next there n i = (runs there n i).map (blk next) := by
  intro n
  induction n with
  | zero => intro i; rfl
  | succ n ih =>
    intro i
    rw [blocksFrom, runs]
    split
    · rw [List.map_cons, ih]
      simp only [blk, Int.natCast_add]
    · exact ih _

/-- Ranges behind last, ascending, not empty, separated, up to L. -/
def Chain (L : Nat) : Nat → List (Nat × Nat) → Prop
  | _, [] => True
  | last, p :: ps => last < p.1 ∧ p.1 < p.2 ∧ p.2 ≤ L ∧ Chain L p.2 ps
theorem lead_pos {l : List Bool} (h : l.getD 0 false = true) : 0 < lead l := by
  cases l with
  | nil => simp at h
  | cons b l =>
    have hb : b = true := by simpa using h
    subst hb
    simp [lead]
theorem runs_chain (there : List Bool) : ∀ (n i last : Nat), last < i ∨ (last = i ∧ there.getD i false = false) → Chain there.length last (runs there n i) := by
  intro n
  induction n with
  | zero => intro i last _; trivial
  | succ n ih =>
    intro i last h
    rw [runs]
    split
    · rename_i ht
      have hi : last < i := by
        rcases h with h | ⟨_, h⟩
        · exact h
        · rw [h] at ht; exact absurd ht (by decide)
      have hl : i < there.length := by
        apply Classical.byContradiction
        intro hn
        rw [List.getD_eq_getElem?_getD, List.getElem?_eq_none (by omega)] at ht
        exact absurd ht (by decide)
      have h1 := lead_le (there.drop i)
      rw [List.length_drop] at h1
      have h2 : 0 < lead (there.drop i) := lead_pos (by rw [← getD_drop]; simpa using ht)
      exact ⟨hi, by simp only; omega, by simp only; omega, ih _ _ (.inl (by omega))⟩
    · exact ih _ _ (.inl (by rcases h with h | ⟨h, _⟩ <;> omega))

theorem lead_drop (l : List Bool) : lead (l.drop (lead l)) = 0 := by
  have h := lead_false l
  have h0 : (l.drop (lead l)).getD 0 false = false := by rw [← getD_drop]; simpa using h
  cases hd : l.drop (lead l) with
  | nil => rfl
  | cons b r =>
    rw [hd] at h0
    have hb : b = false := by simpa using h0
    subst hb
    rfl
theorem lead_zero {l : List Bool} (h : lead l = 0) : l.getD 0 false = false := by
  have := lead_false l
  rw [h] at this
  exact this
/-- The first number that was not received is not there. -/
theorem RB.gap_put {b : RB} (h : lead b.there = 0) (x : Int) (s : ByteArray) : lead (b.put x s).there = 0 := by
  unfold RB.put
  split
  · exact h
  · exact lead_drop _
theorem RB.blocks_chain {b : RB} (h : lead b.there = 0) : Chain b.there.length 0 (runs b.there b.there.length 0) := runs_chain _ _ _ _ (.inr ⟨rfl, lead_zero h⟩)

theorem dif_addq (x : Int) (n : Nat) (h : n < 2147483648) : dif (addq x (n : Int)) x = (n : Int) := by
  simp only [dif, addq, wrap64, wrap32]
  omega
end Go.Proofs.Ytpanenghlpipkaa.Recv
