/- Before the last held number, every number is in a hole or is held, and not both: for every number of 32 bits, all lists of ints and every int (reduced as the law reduces them). No condition. -/
import Derived.Test.YtlcccmaolbjcfaaWalkHoles
import Derived.Test.YtlcccmaolbjcfaaSackHoles
namespace Go.Proofs.Ytlcccmaolbjcfaa.Pure
open Go.RowKit Go.Proofs.Ytlcccmaolbjcfaa.PSackMoves Go.Proofs.YtlcccmaolbjcfaaW.PrintWords Go.Proofs.YtlcccmaolbjcfaaW.PrintLast
open Go.Proofs.Ytlcccmaolbjcfaa.Mine Go.Proofs.Ytlcccmaolbjcfaa.Sack
set_option linter.unusedVariables false
set_option linter.unusedSimpArgs false

theorem SackHoles : patchbaykeep3_SackHoles.Pure := by
  intro una l2 l3 x hun _ _ _ _ _ _ _
  have hun := u32b hun
  refine ⟨5000, ?_⟩
  unfold patchbaykeep3_SackHoles.f
  rw [fact_f, Option.bind_some, if_pos rfl, add_f, Option.bind_some]
  obtain ⟨B, b1, b2, b3⟩ := blocks_f una l2 l3 (k := 5000) (by omega)
  rw [b1, Option.bind_some]
  obtain ⟨L, g1, g2, g3, g4⟩ := held_f (una := una) (n := 300) (B := B) (k := 5000) (by omega) (by omega) (by omega) (by omega) b2 (by omega) (by omega)
  rw [g1, Option.bind_some]
  dsimp only
  rw [holes_f (by omega) (by omega) (by omega) (by omega) g2 g3 (by omega), Option.bind_some]
  dsimp only
  have e0 : ((0 : Int) != 0) = false := rfl
  rw [if_pos rfl, e0, patchbaykeep3_SackHoles.j0, if_neg (by simp)]
  have hl := len_le (by omega) g2 g3
  by_cases c : L.length = 0
  · have : L = [] := List.length_eq_zero_iff.mp c
    subst this
    rw [if_pos (by simp)]
    simp [gaps]
  · have hpos : 0 < L.length := by omega
    rw [if_neg (by rw [List.length_map]; omega)]
    have e1 : wrap64 (((L.map (absB una)).length : Int) - 1) = ((L.length - 1 : Nat) : Int) := by
      rw [List.length_map, wrap64_in (by omega)]
      omega
    rw [e1, if_pos (by omega), if_pos (by simp; omega), rd31_abs (by omega)]
    have hlast : (L[L.length - 1]'(by omega)).f1 = lastE 0 L := lastE_get L 0 hpos
    have hmem := List.getElem_mem (l := L) (n := L.length - 1) (by omega)
    have hp := sep_pos g2 _ hmem
    have hq := g3 _ hmem
    have e2 : (absB una (L[L.length - 1]'(by omega))).f1 = (una + lastE 0 L) % 4294967296 := by rw [← hlast]; rfl
    have hE : 0 < lastE 0 L ∧ lastE 0 L ≤ 300 := by omega
    unfold seq_Diff.f
    have e3 : wrap64 (wrap32 (((una + lastE 0 L) % 4294967296 - una) % 4294967296)) = lastE 0 L := by
      rw [off (by omega) (by omega)]
      unfold wrap64 wrap32
      omega
    rw [e2, e3, Option.bind_some, rest_f (by omega) (by omega), Option.bind_some]
    have hr := @rst_bd x (lastE 0 L) (by omega)
    generalize rst x (lastE 0 L) = r at *
    rw [add_f, Option.bind_some, has_f (by omega) (by omega) (fun s hs => by have := gaps_bd L 0 g2 g3 s hs; omega) (by rw [gaps_length]; omega) (by omega), Option.bind_some,
      has_f (by omega) (by omega) (fun s hs => by have h1 := sep_pos g2 s hs; have h2 := g3 s hs; omega) (by omega) (by omega), Option.bind_some]
    have hm := gaps_mem L 0 r g2 hr.1 hr.2
    unfold Mem at hm
    cases c1 : memB L r <;> cases c2 : memB (gaps 0 L) r <;> simp [c1, c2] at hm ⊢

end Go.Proofs.Ytlcccmaolbjcfaa.Pure
