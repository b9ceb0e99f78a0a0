/- A string of even length followed by its checksum has the checksum 0, and the order of its 16-bit words does not matter: for every string. No condition. -/
import Derived.Test.YtlcccmaolbjcfaaWalkSums
import Derived.Test.YtlcccmaolbjcfaaSegSum
namespace Go.Proofs.Ytlcccmaolbjcfaa.Pure
open Go.RowKit Go.Proofs.Ytlcccmaolbjcfaa.PSegElsewhere Go.Proofs.YtlcccmaolbjcfaaW.PrintWords Go.Proofs.YtlcccmaolbjcfaaW.PrintLast
open Go.Proofs.Ytlcccmaolbjcfaa.Mine Go.Proofs.Ytlcccmaolbjcfaa.Seg
set_option linter.unusedVariables false
set_option linter.unusedSimpArgs false

theorem fact_sums {k : Nat} (hk : 100 ≤ k) : patchbaykeep3_segFact.f k = some true :=
  at_rounds patchbaykeep3_segFact.mono hk (by decide +kernel)

theorem sums_end {l : List Int} (h : ∀ x ∈ l, 0 ≤ x ∧ x < 256) (hl : l.length % 2 = 0) : csum (l ++ [csum l / 256 % 256, csum l % 256]) = 0 := by
  have hb := wsum_bd l true h
  have hc := csum_bd l
  have e : wsum true [csum l / 256 % 256, csum l % 256] = csum l := by simp only [wsum]; omega
  have e2 : csum (l ++ [csum l / 256 % 256, csum l % 256]) = 65535 - fold (wsum true l + csum l) := by
    show 65535 - fold (wsum true (l ++ [csum l / 256 % 256, csum l % 256])) = _
    rw [wsum_even _ hl, e]
  rw [e2]
  unfold csum
  generalize wsum true l = x at *
  unfold fold
  by_cases c : x = 0
  · subst c
    simp
  · rw [if_neg c, if_neg (by omega)]
    omega

theorem turned (s : ByteArray) (hs : s.size ≤ 140737488351232) (he : s.size % 2 = 0) :
    ∀ (d k : Nat) (t : ByteArray), 2 * d ≤ s.size → t.size + 2 * d = s.size → s.size + d + 50 ≤ k → wsum true (bytesOf t) + wsum true ((bytesOf s).take (2 * d)) = wsum true (bytesOf s) →
    patchbaykeep3_SegSums.l0 k s (csum (bytesOf s)) t ((2 * d : Nat) : Int) = some true := by
  have hlen := bytesOf_length s
  have hcb := csum_bd (bytesOf s)
  intro d
  induction d with
  | zero =>
    intro k t hd ht hk hw
    obtain ⟨k, rfl⟩ : ∃ m, k = m + 1 := ⟨k - 1, by omega⟩
    have e0 : wsum true ((bytesOf s).take (2 * 0)) = 0 := by simp [wsum]
    rw [e0] at hw
    have hct : csum (bytesOf t) = csum (bytesOf s) := by
      unfold csum
      congr 2
      omega
    rw [patchbaykeep3_SegSums.l0, if_neg (by simp), sum_f (by omega) (by omega), Option.bind_some, if_pos hct, Option.bind_some]
    rw [Int.tdiv_eq_ediv_of_nonneg (by omega), Int.tmod_eq_emod_of_nonneg (by omega), wrap64_in (by omega)]
    have e1 : csum (bytesOf s) % 256 % 256 = csum (bytesOf s) % 256 := by omega
    have hy : ∀ x ∈ [csum (bytesOf s) / 256 % 256, csum (bytesOf s) % 256], (0 : Int) ≤ x ∧ x < 256 := by
      intro x hx
      simp only [List.mem_cons, List.not_mem_nil, or_false] at hx
      rcases hx with rfl | rfl <;> omega
    rw [e1]
    have hsz : (strOfNums [csum (bytesOf s) / 256 % 256, csum (bytesOf s) % 256]).size = 2 := strOfNums_size _
    rw [hsz, if_pos (by omega), sum_f (by rw [ByteArray.size_append, hsz]; omega) (by rw [ByteArray.size_append, hsz]; omega), Option.bind_some, bl_append, bl_str _ hy,
      sums_end (bl_range s) (by omega)]
    rfl
  | succ d ih =>
    intro k t hd ht hk hw
    obtain ⟨k, rfl⟩ : ∃ m, k = m + 1 := ⟨k - 1, by omega⟩
    have e1 : wrap64 (((2 * (d + 1) : Nat) : Int) - 2) = ((2 * d : Nat) : Int) := by rw [wrap64_in (by omega)]; omega
    have e2 : ((2 * d : Nat) : Int).toNat = 2 * d := by omega
    have e3 : ((2 * (d + 1) : Nat) : Int).toNat = 2 * (d + 1) := by omega
    have hx : (s.extract (2 * d) (2 * (d + 1))).size = 2 := by rw [ByteArray.size_extract]; omega
    rw [patchbaykeep3_SegSums.l0, if_pos (by omega), e1, e2, e3, if_pos (by omega), if_pos (by omega), if_pos (by omega), hx, if_pos (by omega)]
    refine ih k _ (by omega) (by rw [ByteArray.size_append, hx]; omega) (by omega) ?_
    have ht2 : (bytesOf t).length % 2 = 0 := by rw [bytesOf_length]; omega
    rw [bl_append, bl_extract, wsum_even _ ht2]
    have e4 : (bytesOf s).take (2 * (d + 1)) = (bytesOf s).take (2 * d) ++ ((bytesOf s).take (2 * (d + 1))).drop (2 * d) := by
      have h := (List.take_append_drop (2 * d) ((bytesOf s).take (2 * (d + 1)))).symm
      rw [List.take_take] at h
      have e5 : min (2 * d) (2 * (d + 1)) = 2 * d := by omega
      rw [e5] at h
      exact h
    have hl2 : ((bytesOf s).take (2 * d)).length % 2 = 0 := by rw [List.length_take]; omega
    rw [e4, wsum_even _ hl2] at hw
    omega

theorem SegSums : patchbaykeep3_SegSums.Pure := by
  intro a ha
  refine ⟨2 * a.size + 500, ?_⟩
  unfold patchbaykeep3_SegSums.f
  have e1 : wrap64 (wrap64 ((a.size : Int) / 2) * 2) = ((a.size / 2 * 2 : Nat) : Int) := by
    rw [wrap64_in (n := (a.size : Int) / 2) (by omega), wrap64_in (by omega)]
    omega
  have e2 : ((a.size / 2 * 2 : Nat) : Int).toNat = a.size / 2 * 2 := by omega
  rw [fact_sums (by omega), Option.bind_some, if_pos rfl, e1, e2, if_pos (by omega), if_pos (by omega)]
  have hsz : (a.extract 0 (a.size / 2 * 2)).size = a.size / 2 * 2 := by rw [ByteArray.size_extract]; omega
  generalize a.extract 0 (a.size / 2 * 2) = s at *
  rw [sum_f (by omega) (by omega), Option.bind_some]
  have e3 : (s.size : Int) = ((2 * (s.size / 2) : Nat) : Int) := by omega
  rw [e3]
  refine turned s (by omega) (by omega) (s.size / 2) _ _ (by omega) ?_ (by omega) ?_
  · have e4 : (⟨#[]⟩ : ByteArray).size = 0 := rfl
    rw [e4]; omega
  · have e5 : 2 * (s.size / 2) = (bytesOf s).length := by rw [bytesOf_length]; omega
    have e6 : bytesOf (⟨#[]⟩ : ByteArray) = [] := rfl
    rw [e5, List.take_length, e6]
    simp [wsum]

end Go.Proofs.Ytlcccmaolbjcfaa.Pure
