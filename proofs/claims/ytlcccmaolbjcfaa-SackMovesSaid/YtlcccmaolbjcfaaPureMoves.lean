/- After an acknowledgement number, the same numbers above it are held, except a range that begins there: for every number of 32 bits, all lists of ints and all ints (reduced as the law reduces them). No condition. -/
import Derived.Test.YtlcccmaolbjcfaaWalkMoves
import Derived.Test.YtlcccmaolbjcfaaSackBridge
namespace Go.Proofs.Ytlcccmaolbjcfaa.Pure
open Go.RowKit Go.Proofs.Ytlcccmaolbjcfaa.PSackMoves Go.Proofs.YtlcccmaolbjcfaaW.PrintWords Go.Proofs.YtlcccmaolbjcfaaW.PrintLast
open Go.Proofs.Ytlcccmaolbjcfaa.Mine Go.Proofs.Ytlcccmaolbjcfaa.Sack
set_option linter.unusedVariables false
set_option linter.unusedSimpArgs false

theorem has_upto {una n p : Int} {L : List S64} {k : Nat} (hn : n ≤ 300) (hp0 : 0 ≤ p) (hp1 : p ≤ 1000) (hs : Sep 0 L) (hu : Upto n L) (hk : 1001 ≤ k) :
    patchbaykeep3_has.f k (L.map (absB una)) ((una + p) % 4294967296) = some (memB L p) := by
  have hl := len_le hn hs hu
  refine has_f hp0 hp1 (fun s h => ?_) (by omega) hk
  have h1 := sep_pos hs s h
  have h2 := hu s h
  omega

theorem moves_end {una n K x : Int} {L L' : List S64} {k : Nat} {a b c : Int} (hn0 : 0 ≤ n) (hn1 : n < 300) (hK0 : n ≤ K) (hK1 : K ≤ 300) (hu0 : 0 ≤ una) (hu1 : una < 4294967296)
    (hs : Sep 0 L) (hu : Upto 300 L) (hs' : Sep 0 L') (hu' : Upto 300 L') (hm : ∀ p, Mem L' p ↔ (Mem L p ∧ K ≤ p)) (hk : 2000 ≤ k) :
    patchbaykeep3_SackMoves.j2 k una x n K a b (L.map (absB una)) c b (L'.map (absB una)) = some true := by
  obtain ⟨k, rfl⟩ : ∃ m, k = m + 1 := ⟨k - 1, by omega⟩
  rw [patchbaykeep3_SackMoves.j2, wrap64_in (n := 300 - n) (by omega), rest_f (by omega) (by omega), Option.bind_some]
  have hr := @rst_bd x (300 - n) (by omega)
  generalize rst x (300 - n) = r at *
  rw [wrap64_in (n := n + r) (by omega), add_f, Option.bind_some, has_upto (by omega) (by omega) (by omega) hs' hu' (by omega), Option.bind_some,
    has_upto (by omega) (by omega) (by omega) hs hu (by omega), Option.bind_some]
  have hm' := hm (n + r)
  unfold Mem at hm'
  cases c : memB L (n + r) with
  | true =>
    rw [if_pos rfl]
    unfold seq_Diff.f
    have e : wrap64 (wrap32 (((una + (n + r)) % 4294967296 - una) % 4294967296)) = n + r := by
      rw [off (by omega) (by omega)]
      unfold wrap64 wrap32
      omega
    rw [e, Option.bind_some]
    rw [c] at hm'
    by_cases hc : K ≤ n + r
    · have e1 : memB L' (n + r) = true := hm'.mpr ⟨rfl, hc⟩
      simp [e1, hc]
    · have e1 : memB L' (n + r) = false := by
        cases g : memB L' (n + r) with
        | false => rfl
        | true => exact absurd (hm'.mp g).2 hc
      simp [e1, hc]
  | false =>
    have e1 : memB L' (n + r) = false := by
      cases g : memB L' (n + r) with
      | false => rfl
      | true => rw [c] at hm'; exact absurd (hm'.mp g).1 (by simp)
    rw [e1]
    simp

theorem moves_loop {una n x : Int} {L L' : List S64} {a b c : Int} (hn0 : 0 ≤ n) (hn1 : n < 300) (hu0 : 0 ≤ una) (hu1 : una < 4294967296)
    (hs : Sep 0 L) (hu : Upto 300 L) (hs' : Sep 0 L') (hu' : Upto 300 L')
    (hm : ∀ K, n ≤ K → (∀ q, n ≤ q → q < K → Mem L q) → ¬ Mem L K → ∀ p, Mem L' p ↔ (Mem L p ∧ K ≤ p)) :
    ∀ (d k : Nat) (i : Int), 300 - i = d → n ≤ i → i ≤ 300 → d + 2002 ≤ k → (∀ q, n ≤ q → q < i → Mem L q) →
    patchbaykeep3_SackMoves.l0 k una x n i a b (L.map (absB una)) c b (L'.map (absB una)) = some true := by
  intro d
  induction d with
  | zero =>
    intro k i hd hi0 hi hk hq
    obtain ⟨k, rfl⟩ : ∃ m, k = m + 1 := ⟨k - 1, by omega⟩
    have hni : ¬ Mem L i := by
      intro g
      obtain ⟨s, g1, g2, g3⟩ := mem_elim g
      have := hu s g1
      omega
    rw [patchbaykeep3_SackMoves.l0, if_neg (by omega)]
    exact moves_end hn0 hn1 hi0 hi hu0 hu1 hs hu hs' hu' (hm i hi0 hq hni) (by omega)
  | succ d ih =>
    intro k i hd hi0 hi hk hq
    obtain ⟨k, rfl⟩ : ∃ m, k = m + 1 := ⟨k - 1, by omega⟩
    rw [patchbaykeep3_SackMoves.l0, if_pos (by omega), add_f, Option.bind_some, has_upto (by omega) (by omega) (by omega) hs hu (by omega), Option.bind_some]
    cases c : memB L i with
    | true =>
      rw [if_pos rfl, wrap64_in (n := i + 1) (by omega)]
      refine ih k (i + 1) (by omega) (by omega) (by omega) (by omega) fun q h1 h2 => ?_
      by_cases e : q = i
      · subst e; exact c
      · exact hq q h1 (by omega)
    | false =>
      rw [if_neg (by simp)]
      have hni : ¬ Mem L i := by unfold Mem; rw [c]; simp
      exact moves_end hn0 hn1 hi0 hi hu0 hu1 hs hu hs' hu' (hm i hi0 hq hni) (by omega)

theorem SackMoves : patchbaykeep3_SackMoves.Pure := by
  intro una l2 l3 ack x hun _ _ _ _ _ _ _ _
  have hun := u32b hun
  refine ⟨5000, ?_⟩
  unfold patchbaykeep3_SackMoves.f
  rw [fact_f, Option.bind_some, if_pos rfl, add_f, Option.bind_some]
  obtain ⟨B, b1, b2, b3⟩ := blocks_f una l2 l3 (k := 5000) (by omega)
  rw [b1, Option.bind_some]
  obtain ⟨L, g1, g2, g3, g4⟩ := held_f (una := una) (n := 300) (B := B) (k := 5000) (by omega) (by omega) (by omega) (by omega) b2 (by omega) (by omega)
  rw [g1, Option.bind_some]
  dsimp only
  rw [rest_f (by omega) (by omega), Option.bind_some, add_f, Option.bind_some]
  have hr := @rst_bd ack 300 (by omega)
  generalize rst ack 300 = n at *
  have a := add_all (una := una) (n := 300) (d := n) (L := L) (B := []) (k := 5000) (by omega) (by omega) g2 g3 (by intro s hs; cases hs) (by simp) hr.1 (by omega) (by omega)
  rw [List.map_nil, List.append_nil] at a
  rw [a, Option.bind_some]
  dsimp only
  rw [if_pos rfl, if_pos rfl, Option.bind_some, if_pos rfl]
  have hpos : ∀ s ∈ L, s.f0 < s.f1 := fun s h => (sep_pos g2 s h).2
  obtain ⟨q1, q2⟩ := gather_spec n L [] hpos trivial
  have q3 : ∀ p, Mem (gather n [] L) p ↔ (Mem L p ∧ n ≤ p) := by
    intro p
    rw [q2]
    have := mem_nil p
    simp [this]
  have hm : ∀ K, n ≤ K → (∀ q, n ≤ q → q < K → Mem L q) → ¬ Mem L K → Sep n (keep n (gather n [] L)) ∧ ∀ p, Mem (keep n (gather n [] L)) p ↔ (Mem L p ∧ K ≤ p) := by
    intro K k0 k1 k2
    obtain ⟨r1, r2⟩ := keep_mem q1 k0 (fun q h1 h2 => (q3 q).mpr ⟨k1 q h1 h2, h1⟩) (fun h => k2 ((q3 K).mp h).1)
    refine ⟨r1, fun p => ?_⟩
    rw [r2, q3]
    constructor
    · exact fun h => ⟨h.1.1, h.2⟩
    · exact fun h => ⟨⟨h.1, by omega⟩, h.2⟩
  -- the first number from n on that is not held
  have hex : ∃ K, n ≤ K ∧ (∀ q, n ≤ q → q < K → Mem L q) ∧ ¬ Mem L K := by
    have h300 : ∀ i : Int, 300 ≤ i → ¬ Mem L i := by
      intro i hi g
      obtain ⟨s, e1, e2, e3⟩ := mem_elim g
      have := g3 s e1
      omega
    have hd : ∀ (d : Nat) (i : Int), 300 - i = d → n ≤ i → (∀ q, n ≤ q → q < i → Mem L q) → ∃ K, n ≤ K ∧ (∀ q, n ≤ q → q < K → Mem L q) ∧ ¬ Mem L K := by
      intro d
      induction d with
      | zero => intro i h0 h1 h2; exact ⟨i, h1, h2, h300 i (by omega)⟩
      | succ d ih =>
        intro i h0 h1 h2
        by_cases c : Mem L i
        · refine ih (i + 1) (by omega) (by omega) fun q h3 h4 => ?_
          by_cases e : q = i
          · subst e; exact c
          · exact h2 q h3 (by omega)
        · exact ⟨i, h1, h2, c⟩
    exact hd (300 - n).toNat n (by omega) (by omega) (fun q h1 h2 => absurd h2 (by omega))
  obtain ⟨K, k0, k1, k2⟩ := hex
  obtain ⟨r1, r2⟩ := hm K k0 k1 k2
  generalize hL' : keep n (gather n [] L) = L' at *
  have hs' : Sep 0 L' := sep_mono r1 hr.1
  have hu' : Upto 300 L' := upto_of_mem r1 fun p h => by
    obtain ⟨s, e1, e2, e3⟩ := mem_elim ((r2 p).mp h).1
    have := g3 s e1
    omega
  have hc : sack_Check.f 5000 ((una + n) % 4294967296) ((una + 300) % 4294967296) (L'.map (absB una)) = some 0 := by
    rw [back_abs_map (una := una) (d := n) L']
    have e : (una + 300) % 4294967296 = ((una + n) % 4294967296 + (300 - n)) % 4294967296 := by omega
    rw [e]
    refine check_f (by omega) (by omega) ((back_sep n L' 0).mpr ?_) ?_ (by omega)
    · have e0 : 0 + n = n := by omega
      rw [e0]; exact r1
    · intro s hs
      obtain ⟨t, ht, rfl⟩ := List.mem_map.mp hs
      have := hu' t ht
      show t.f1 - n ≤ 300 - n
      omega
  rw [hc, Option.bind_some]
  have e0 : ((0 : Int) != 0) = false := rfl
  rw [e0, patchbaykeep3_SackMoves.j0, if_neg (by simp)]
  exact moves_loop hr.1 hr.2 (by omega) (by omega) g2 g3 hs' hu' (fun K k0 k1 k2 => (hm K k0 k1 k2).2) (300 - n).toNat 4999 n (by omega) (by omega) (by omega) (by omega) (fun q h1 h2 => absurd h2 (by omega))

end Go.Proofs.Ytlcccmaolbjcfaa.Pure
