/- Exactly the numbers in the reported blocks are held, in whatever order they are reported: for every number of 32 bits, all lists of ints and every int (reduced as the law reduces them). No condition. -/
import Derived.Test.YtlcccmaolbjcfaaWalkHolds
import Derived.Test.YtlcccmaolbjcfaaSackBridge
namespace Go.Proofs.Ytlcccmaolbjcfaa.Pure
open Go.RowKit Go.Proofs.Ytlcccmaolbjcfaa.PSackMoves Go.Proofs.YtlcccmaolbjcfaaW.PrintWords Go.Proofs.YtlcccmaolbjcfaaW.PrintLast
open Go.Proofs.Ytlcccmaolbjcfaa.Mine Go.Proofs.Ytlcccmaolbjcfaa.Sack
set_option linter.unusedVariables false
set_option linter.unusedSimpArgs false

theorem same_loop {una x a b c d : Int} {B L : List S64} (hl : L.length ≤ 150) (hB : ∀ s ∈ B, Ok 300 s) (hB2 : B.length ≤ 12) (hs : Sep 0 L) (hu : Upto 300 L) (hm : ∀ p, Mem L p ↔ Mem B p) :
    ∀ (e k i : Nat), L.length - i = e → i ≤ L.length → e + 2000 ≤ k →
    patchbaykeep3_SackHolds.l1 k una x (B.map (absB una)) i a b (L.map (absB una)) c d (L.map (absB una)) = some true := by
  intro e
  induction e with
  | zero =>
    intro k i he hi hk
    obtain ⟨k, rfl⟩ : ∃ m, k = m + 1 := ⟨k - 1, by omega⟩
    obtain rfl : i = L.length := by omega
    have hr := @rst_bd x 300 (by omega)
    rw [patchbaykeep3_SackHolds.l1, if_neg (by simp), rest_f (by omega) (by omega), Option.bind_some]
    generalize rst x 300 = r at *
    rw [add_f, Option.bind_some, has_f (by omega) (by omega) (fun s hs' => by have h1 := sep_pos hs s hs'; have h2 := hu s hs'; omega) (by omega) (by omega), Option.bind_some,
      has_f (by omega) (by omega) (fun s hs' => by obtain ⟨h1, h2, h3⟩ := hB s hs'; omega) (by omega) (by omega), Option.bind_some]
    have h := hm r
    unfold Mem at h
    cases c1 : memB L r <;> cases c2 : memB B r <;> simp [c1, c2] at h ⊢
  | succ e ih =>
    intro k i he hi hk
    obtain ⟨k, rfl⟩ : ∃ m, k = m + 1 := ⟨k - 1, by omega⟩
    have hpos : (i : Int) < ((L.map (absB una)).length : Int) := by simp; omega
    rw [patchbaykeep3_SackHolds.l1, if_pos hpos, if_pos (by omega), if_pos hpos, if_neg (by simp), wrap64_in (n := (i : Int) + 1) (by omega)]
    have g := ih k (i + 1) (by omega) (by omega) (by omega)
    rw [nat_succ] at g
    exact g

theorem turn_loop {una x : Int} {B : List S64} (hun : 0 ≤ una ∧ una < 4294967296) (hB : ∀ s ∈ B, Ok 300 s) (hB2 : B.length ≤ 12) :
    ∀ (i k : Nat), i ≤ B.length → i + 5000 ≤ k →
    patchbaykeep3_SackHolds.l0 k una x (B.map (absB una)) ((B.drop i).reverse.map (absB una)) i = some true := by
  intro i
  induction i with
  | zero =>
    intro k hi hk
    obtain ⟨k, rfl⟩ : ∃ m, k = m + 2 := ⟨k - 2, by omega⟩
    rw [patchbaykeep3_SackHolds.l0, if_neg (by omega), add_f, Option.bind_some, List.drop_zero]
    obtain ⟨La, a1, a2, a3, a4⟩ := held_f (una := una) (n := 300) (B := B) (k := k + 1) (by omega) (by omega) (by omega) (by omega) hB (by omega) (by omega)
    obtain ⟨Lb, b1, b2, b3, b4⟩ := held_f (una := una) (n := 300) (B := B.reverse) (k := k + 1) (by omega) (by omega) (by omega) (by omega) (fun s hs => hB s (List.mem_reverse.mp hs)) (by simp; omega) (by omega)
    have e : La = Lb := by
      refine uniq La Lb 0 a2 b2 fun p => ?_
      rw [a4, b4]
      unfold Mem memB
      rw [List.any_reverse]
    subst e
    rw [a1, b1, Option.bind_some, Option.bind_some]
    dsimp only
    have hl := len_le (by omega) a2 a3
    rw [if_pos rfl, if_pos rfl, if_pos rfl, check_f (by omega) (by omega) a2 a3 (by omega), Option.bind_some]
    have e0 : ((0 : Int) != 0) = false := rfl
    rw [e0, patchbaykeep3_SackHolds.j1, if_neg (by simp)]
    exact same_loop hl hB hB2 a2 a3 a4 La.length k 0 (by omega) (by omega) (by omega)
  | succ i ih =>
    intro k hi hk
    obtain ⟨k, rfl⟩ : ∃ m, k = m + 1 := ⟨k - 1, by omega⟩
    have e1 : wrap64 (((i + 1 : Nat) : Int) - 1) = (i : Int) := by rw [wrap64_in (by omega)]; omega
    have hlt : i < B.length := by omega
    rw [patchbaykeep3_SackHolds.l0, if_pos (by omega), e1, if_pos (by omega), if_pos (by simp; omega), if_pos (by simp; omega), rd31_abs hlt]
    have g := ih k (by omega) (by omega)
    rw [drop_cons hlt, List.reverse_cons, List.map_append] at g
    exact g

theorem SackHolds : patchbaykeep3_SackHolds.Pure := by
  intro una l2 l3 x hun _ _ _ _ _ _ _
  have hun := u32b hun
  refine ⟨6000, ?_⟩
  unfold patchbaykeep3_SackHolds.f
  have hf : patchbaykeep3_sackFact.f 6000 = some true := by decide +kernel
  rw [hf, Option.bind_some, if_pos rfl]
  obtain ⟨B, b1, b2, b3⟩ := blocks_f una l2 l3 (k := 6000) (by omega)
  rw [b1, Option.bind_some]
  have g := turn_loop (una := una) (x := x) (by omega) b2 b3 B.length 6000 (by omega) (by omega)
  rw [List.drop_length] at g
  rw [List.length_map]
  exact g

end Go.Proofs.Ytlcccmaolbjcfaa.Pure
