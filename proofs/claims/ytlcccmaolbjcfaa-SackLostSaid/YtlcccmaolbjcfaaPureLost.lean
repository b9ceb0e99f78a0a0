/- Lost holes are the first of the holes, and fewer if more is required: the plain law behind SackLost. -/
import Derived.Test.YtlcccmaolbjcfaaWalkLost
import Derived.Test.YtlcccmaolbjcfaaSackHoles
namespace Go.Proofs.Ytlcccmaolbjcfaa.Pure
open Go.RowKit Go.Proofs.Ytlcccmaolbjcfaa.PSackMoves Go.Proofs.YtlcccmaolbjcfaaW.PrintWords Go.Proofs.YtlcccmaolbjcfaaW.PrintLast
open Go.Proofs.Ytlcccmaolbjcfaa.Mine Go.Proofs.Ytlcccmaolbjcfaa.Sack
set_option linter.unusedVariables false
set_option linter.unusedSimpArgs false

theorem lost_fewer (h : List S31) (least : Int) : ∀ (i : Nat) (above : Int), lostMany h (least + 1) i above ≤ lostMany h least i above := by
  intro i
  induction i with
  | zero => intro above; exact Nat.le_refl _
  | succ i ih =>
    intro above
    unfold lostMany
    generalize above + ((rd_T31 h i).f1 - (rd_T31 h i).f0) % 4294967296 = a
    by_cases c1 : a ≥ least + 1
    · rw [if_pos c1, if_pos (by omega)]
      exact Nat.le_refl _
    · rw [if_neg c1]
      by_cases c2 : a ≥ least
      · rw [if_pos c2]
        have := lostMany_le h (least + 1) i a
        omega
      · rw [if_neg c2]
        exact ih a

theorem rd_take {l : List S31} {n j : Nat} (h : j < (l.take n).length) : rd_T31 (l.take n) (j : Int) = rd_T31 l (j : Int) := by
  have h2 : j < n := by rw [List.length_take] at h; omega
  unfold rd_T31
  rw [Int.toNat_natCast, List.getD_eq_getElem?_getD, List.getD_eq_getElem?_getD, List.getElem?_take, if_pos h2]

theorem SackLost (una : Int) (A1 : Option Addr) (c1 : Nat) (l1 : List Int) (A2 : Option Addr) (c2 : Nat) (l2 : List Int) (x : Int) (w : World) (hu : 0 ≤ una ∧ una < 4294967296)
    (hr1 : Kd.C (Kd.int .i64) w A1 l1.length l1) (hc1 : l1.length ≤ c1) (hr2 : Kd.C (Kd.int .i64) w A2 l2.length l2) (hc2 : l2.length ≤ c2) :
    Calls Try.prog 10 #[.int .u32 una, .slice A1 l1.length c1, .slice A2 l2.length c2, .int .i64 x] w fun e w' => e = .returned (.bool true) ∧ Below w.heap.size w w' := by
  obtain ⟨B, b1, b2, b3⟩ := blocks_f una l1 l2 (k := 5000) (by omega)
  obtain ⟨L, g1, g2, g3, g4⟩ := held_f (una := una) (n := 300) (B := B) (k := 5000) (by omega) (by omega) (by omega) (by omega) b2 (by omega) (by omega)
  have hh := holes_f (una := una) (n := 300) (L := L) (k := 5000) (by omega) (by omega) (by omega) (by omega) g2 g3 (by omega)
  have hlen := len_le (by omega) g2 g3
  have hr := @rst_bd x 100 (by omega)
  have hlh : ((gaps 0 L).map (absB una)).length = (L.map (absB una)).length := by rw [List.length_map, List.length_map, gaps_length]
  have hl0 : (L.map (absB una)).length = L.length := List.length_map ..
  have n1 := lostMany_le (L.map (absB una)) (1 + rst x 100) (L.map (absB una)).length 0
  have n2 := lost_fewer (L.map (absB una)) (1 + rst x 100) (L.map (absB una)).length 0
  refine lostlaw_calls 5000 una ((una + 300) % 4294967296) una ((una + 300) % 4294967296) A1 c1 l1 A2 c2 l2 x (rst x 100) (B.map (absB una)) (L.map (absB una)) ((gaps 0 L).map (absB una)) w hr1 hc1 hr2 hc2
    fact_f (add_f una 300) b1 g1 (rest_f (by omega) (by omega)) hh hr.1 hr.2 _ _ rfl rfl hlh (by omega) ?_ ?_ (fun j hj => rd_take hj) (fun j hj => rd_take hj)
  · rw [List.length_take, List.length_take]
    omega
  · rw [List.length_take]
    omega

end Go.Proofs.Ytlcccmaolbjcfaa.Pure
