/- Greater measurements lead to a smoothed time that is not smaller: for all lists of ints (reduced as the law reduces them). No condition. -/
import Derived.Test.YtbaccojgdbaeoaaPTripRisesx3
import Derived.Test.YtbaccojgdbaeoaaMineTrip
namespace Go.Proofs.Ytbaccojgdbaeoaa.Pure
open Go.RowKit Go.Proofs.Ytbaccojgdbaeoaa.PTripRises Go.Proofs.YtbaccojgdbaeoaaW.PrintWords Go.Proofs.YtbaccojgdbaeoaaW.PrintLast
open Go.Proofs.Ytbaccojgdbaeoaa.Mine

theorem fact_rises : patchbaykeep3_tripFact.f 1 = some true := by decide +kernel

theorem check_rises {H : Bool} {S V Sh : Int} (h : Valid H S V Sh) (k : Nat) : trip_Check.f (k + 1) H S V Sh = some 0 := by
  obtain ⟨h1, h2, h3, h4, h5, h6, h7⟩ := h
  have e1 : decide (Sh ≤ 10) = true := by simpa using h2
  have e2 : decide (S ≤ 16007) = true := by simpa using h4
  have e3 : decide (V ≤ 8000) = true := by simpa using h6
  unfold trip_Check.f trip_in.f
  rw [if_pos h1, if_pos h3, if_pos h5, e1, e2, e3]
  simp only [Option.bind_some, if_true, trip_Check.j0, Bool.not_true, Bool.false_eq_true, if_false]
  cases H with
  | true => simp
  | false =>
    obtain ⟨e4, e5⟩ := h7 rfl
    simp [e4, e5]

theorem sample_rises {H : Bool} {S V Sh m : Int} (h : Valid H S V Sh) (hm0 : 0 ≤ m) (hm1 : m ≤ 2000) (k : Nat) :
    trip_Sample.f (k + 1) H S V Sh m = some (true, nextS H S m, nextV H S V m, 0, 0) := by
  unfold trip_Sample.f
  rw [check_rises h k]
  obtain ⟨h1, h2, h3, h4, h5, h6, h7⟩ := h
  have em : decide (m ≤ 2000) = true := by simpa using hm1
  simp only [Option.bind_some, if_true, trip_in.f]
  rw [if_pos hm0, em]
  simp only [Option.bind_some, if_true]
  cases H with
  | true =>
    have e1 : Int.tdiv S 8 = S / 8 := Int.tdiv_eq_ediv_of_nonneg h3
    have e2 : Int.tdiv V 4 = V / 4 := Int.tdiv_eq_ediv_of_nonneg h5
    rw [if_pos rfl, e1, e2]
    rw [wrap64_in (n := S / 8) (by omega), wrap64_in (n := V / 4) (by omega), wrap64_in (n := m - S / 8) (by omega), wrap64_in (n := -(m - S / 8)) (by omega)]
    have e3 : mx (m - S / 8) (-(m - S / 8)) = mag (m - S / 8) := by unfold mx mag; split <;> split <;> omega
    have hb := mag_bd (m - S / 8)
    have hb2 : mag (m - S / 8) ≤ 2000 := by unfold mag; split <;> omega
    rw [e3, wrap64_in (n := mag (m - S / 8) - V / 4) (by omega), wrap64_in (n := S + (m - S / 8)) (by omega), wrap64_in (n := V + (mag (m - S / 8) - V / 4)) (by omega)]
    simp [nextS, nextV]
  | false =>
    rw [wrap64_in (n := 8 * m) (by omega), wrap64_in (n := 2 * m) (by omega)]
    simp [nextS, nextV]

theorem rest_rises {n m : Int} (h0 : 0 < m) (h1 : m ≤ 9223372036854775807) : patchbaykeep3_rest.f n m = some (rst n m) := rest_eq h0 h1

theorem loop_rises (l more : List Int) :
    ∀ (d k i : Nat) (H : Bool) (S V T U : Int), 60 - i = d → i ≤ 60 → 2 * d + 3 ≤ k → Valid H S V 0 → Valid H T U 0 → S ≤ T →
    patchbaykeep3_TripRises.l0 k l more i H S V 0 H T U 0 = some true := by
  intro d
  induction d with
  | zero =>
    intro k i H S V T U hd hi hk hv hw hle
    obtain ⟨k, rfl⟩ : ∃ m, k = m + 2 := ⟨k - 2, by omega⟩
    have e : decide ((i : Int) < 60) = false := by simp; omega
    rw [patchbaykeep3_TripRises.l0, e, patchbaykeep3_TripRises.j1]
    simp
  | succ d ih =>
    intro k i H S V T U hd hi hk hv hw hle
    obtain ⟨k, rfl⟩ : ∃ m, k = m + 3 := ⟨k - 3, by omega⟩
    have e : decide ((i : Int) < 60) = true := by simp; omega
    rw [patchbaykeep3_TripRises.l0, e, patchbaykeep3_TripRises.j1, patchbaykeep3_TripRises.j1]
    by_cases h1 : (i : Int) < (l.length : Int)
    · by_cases h2 : (i : Int) < (more.length : Int)
      · have hm := @rst_bd (rd l i) 1000 (by omega)
        have hn := @rst_bd (rd more i) 1000 (by omega)
        rw [if_pos h1, if_pos h2, if_pos rfl, if_pos (by omega), if_pos h1, rest_rises (by omega) (by omega), Option.bind_some]
        rw [sample_rises hv hm.1 (by omega), Option.bind_some, if_pos h2, rest_rises (by omega) (by omega), Option.bind_some]
        generalize rst (rd l i) 1000 = a at *
        generalize rst (rd more i) 1000 = b at *
        rw [wrap64_in (n := a + b) (by omega), sample_rises hw (by omega) (by omega), Option.bind_some]
        dsimp only
        have hle' : nextS H S a ≤ nextS H T (a + b) := by
          unfold nextS
          cases H <;> simp <;> omega
        rw [if_pos rfl, if_pos rfl, if_neg (by omega), wrap64_in (by omega)]
        have h := ih (k + 1) (i + 1) true _ _ _ _ (by omega) (by omega) (by omega) (hv.next (by omega) (by omega)) (hw.next (by omega) (by omega)) hle'
        have e : ((i + 1 : Nat) : Int) = (i : Int) + 1 := by omega
        rw [e] at h
        exact h
      · rw [if_pos h1, if_neg h2]
        simp
    · rw [if_neg h1]
      simp

theorem TripRises : patchbaykeep3_TripRises.Pure := by
  intro l more hl hl8 hlw hm hm8 hmw
  refine ⟨400, ?_⟩
  unfold patchbaykeep3_TripRises.f
  have hfact : patchbaykeep3_tripFact.f 400 = some true := by decide +kernel
  rw [hfact, Option.bind_some, if_pos rfl]
  simp only [trip_First.f]
  rw [Option.bind_some, Option.bind_some]
  dsimp only
  have hv : Valid false 0 0 0 := ⟨by omega, by omega, by omega, by omega, by omega, by omega, fun _ => ⟨rfl, rfl⟩⟩
  have h := loop_rises l more 60 400 0 false 0 0 0 0 (by omega) (by omega) (by omega) hv hv (by omega)
  have e : ((0 : Nat) : Int) = 0 := rfl
  rw [e] at h
  exact h

end Go.Proofs.Ytbaccojgdbaeoaa.Pure
