/- Many equal measurements lead to exactly this smoothed time and a variation below 4 fourths: for every list of ints and every int m (reduced as the law reduces them). No condition. -/
import Derived.Test.YtbaccojgdbaeoaaPTripSteadyx3
import Derived.Test.YtbaccojgdbaeoaaMineTrip
namespace Go.Proofs.Ytbaccojgdbaeoaa.Pure
open Go.RowKit Go.Proofs.Ytbaccojgdbaeoaa.PTripSteady Go.Proofs.YtbaccojgdbaeoaaW.PrintWords Go.Proofs.YtbaccojgdbaeoaaW.PrintLast
open Go.Proofs.Ytbaccojgdbaeoaa.Mine

theorem fact_steady : patchbaykeep3_tripFact.f 1 = some true := by decide +kernel

theorem check_steady {H : Bool} {S V Sh : Int} (h : Valid H S V Sh) (k : Nat) : trip_Check.f (k + 1) H S V Sh = some 0 := by
  obtain ⟨h1, h2, h3, h4, h5, h6, h7⟩ := h
  have e1 : decide (Sh ≤ 10) = true := by simpa using h2
  have e2 : decide (S ≤ 16007) = true := by simpa using h4
  have e3 : decide (V ≤ 8000) = true := by simpa using h6
  unfold trip_Check.f trip_in.f
  rw [if_pos h1, if_pos h3, if_pos h5, e1, e2, e3]
  simp only [Option.bind_some, if_true, trip_Check.j0, Bool.not_true, Bool.false_eq_true, if_false]
  cases H with
  | true => simp
  | false =>
    obtain ⟨e4, e5⟩ := h7 rfl
    simp [e4, e5]

theorem sample_steady {H : Bool} {S V Sh m : Int} (h : Valid H S V Sh) (hm0 : 0 ≤ m) (hm1 : m ≤ 2000) (k : Nat) :
    trip_Sample.f (k + 1) H S V Sh m = some (true, nextS H S m, nextV H S V m, 0, 0) := by
  unfold trip_Sample.f
  rw [check_steady h k]
  obtain ⟨h1, h2, h3, h4, h5, h6, h7⟩ := h
  have em : decide (m ≤ 2000) = true := by simpa using hm1
  simp only [Option.bind_some, if_true, trip_in.f]
  rw [if_pos hm0, em]
  simp only [Option.bind_some, if_true]
  cases H with
  | true =>
    have e1 : Int.tdiv S 8 = S / 8 := Int.tdiv_eq_ediv_of_nonneg h3
    have e2 : Int.tdiv V 4 = V / 4 := Int.tdiv_eq_ediv_of_nonneg h5
    rw [if_pos rfl, e1, e2]
    rw [wrap64_in (n := S / 8) (by omega), wrap64_in (n := V / 4) (by omega), wrap64_in (n := m - S / 8) (by omega), wrap64_in (n := -(m - S / 8)) (by omega)]
    have e3 : mx (m - S / 8) (-(m - S / 8)) = mag (m - S / 8) := by unfold mx mag; split <;> split <;> omega
    have hb := mag_bd (m - S / 8)
    have hb2 : mag (m - S / 8) ≤ 2000 := by unfold mag; split <;> omega
    rw [e3, wrap64_in (n := mag (m - S / 8) - V / 4) (by omega), wrap64_in (n := S + (m - S / 8)) (by omega), wrap64_in (n := V + (mag (m - S / 8) - V / 4)) (by omega)]
    simp [nextS, nextV]
  | false =>
    rw [wrap64_in (n := 8 * m) (by omega), wrap64_in (n := 2 * m) (by omega)]
    simp [nextS, nextV]

theorem sampled_steady (l : List Int) (I : Nat → Bool → Int → Int → Prop)
    (hI : ∀ i H S V, i < l.length → i < 60 → I i H S V → Valid H S V 0 → I (i + 1) true (nextS H S (rst (rd l i) 2001)) (nextV H S V (rst (rd l i) 2001))) :
    ∀ (d : Nat) (k i : Nat) (H : Bool) (S V : Int), min l.length 60 - i = d → i ≤ min l.length 60 → 2 * d + 2 ≤ k → I i H S V → Valid H S V 0 →
    ∃ H' S' V', patchbaykeep3_sampled.l0 k l 0 i H S V 0 = some (H', S', V', 0, 0) ∧ Valid H' S' V' 0 ∧ I (min l.length 60) H' S' V' := by
  intro d
  induction d with
  | zero =>
    intro k i H S V hd hi hk hinv hv
    obtain ⟨k, rfl⟩ : ∃ m, k = m + 2 := ⟨k - 2, by omega⟩
    have hi' : i = min l.length 60 := by omega
    refine ⟨H, S, V, ?_, hv, hi' ▸ hinv⟩
    simp only [patchbaykeep3_sampled.l0, patchbaykeep3_sampled.j1]
    by_cases h1 : (i : Int) < (l.length : Int)
    · rw [if_pos h1, if_neg (by omega)]
      simp
    · rw [if_neg h1]
      simp
  | succ d ih =>
    intro k i H S V hd hi hk hinv hv
    obtain ⟨k, rfl⟩ : ∃ m, k = m + 3 := ⟨k - 3, by omega⟩
    have hm := @rst_bd (rd l i) 2001 (by omega)
    obtain ⟨H', S', V', h1, h2, h3⟩ := ih (k + 1) (i + 1) true _ _ (by omega) (by omega) (by omega) (hI i H S V (by omega) (by omega) hinv hv) (hv.next hm.1 (by omega))
    refine ⟨H', S', V', ?_, h2, h3⟩
    rw [patchbaykeep3_sampled.l0, patchbaykeep3_sampled.j1]
    rw [if_pos (by omega), if_pos (by omega), if_pos (by simp), if_pos (by omega), if_pos (by omega)]
    simp only [patchbaykeep3_rest.f]
    rw [rest_eq (by omega) (by omega)]
    simp only [Option.bind_some]
    rw [sample_steady hv hm.1 (by omega), Option.bind_some]
    dsimp only
    rw [wrap64_in (n := (i : Int) + 1) (by omega)]
    have e : ((i + 1 : Nat) : Int) = (i : Int) + 1 := by omega
    rw [e] at h1
    exact h1

/-- What one further measurement of the same value makes of the distance from eight times that value. -/
def pull (u : Int) : Int := u - u / 8
def pullN : Nat → Int → Int
  | 0, u => u
  | n + 1, u => pull (pullN n u)
def fade (v : Int) : Int := v - v / 4
def fadeN : Nat → Int → Int
  | 0, v => v
  | n + 1, v => fade (fadeN n v)

theorem pullN_bd : -1 < pullN 80 (-16000) ∧ pullN 80 16007 < 8 := by decide +kernel
theorem fadeN_bd : fadeN 40 8000 < 4 := by decide +kernel
theorem pullN_low (n : Nat) : pullN (80 + n) (-16000) ≥ 0 := by
  induction n with
  | zero => exact pullN_bd.1
  | succ n ih => show pull (pullN (80 + n) (-16000)) ≥ 0; unfold pull; omega
theorem pullN_high (n : Nat) : pullN (80 + n) 16007 ≤ 7 := by
  induction n with
  | zero => have := pullN_bd.2; show pullN 80 16007 ≤ 7; omega
  | succ n ih => show pull (pullN (80 + n) 16007) ≤ 7; unfold pull; omega

/-- What holds behind i of the equal measurements. -/
def At (m : Int) (i : Nat) (S V : Int) : Prop :=
  pullN i (-16000) ≤ S - 8 * m ∧ S - 8 * m ≤ pullN i 16007 ∧ V ≤ fadeN (i - 81) 8000

theorem at_next {m : Int} {i : Nat} {S V Sh : Int} (hv : Valid true S V Sh) (h : At m i S V) (h0 : 0 ≤ m) (h1 : m ≤ 2000) : At m (i + 1) (nextS true S m) (nextV true S V m) := by
  obtain ⟨a, b, c⟩ := h
  obtain ⟨_, _, h3, h4, h5, h6, _⟩ := hv
  refine ⟨?_, ?_, ?_⟩
  · show pull _ ≤ _
    simp only [nextS, if_true]
    unfold pull
    omega
  · show _ ≤ pull _
    simp only [nextS, if_true]
    unfold pull
    omega
  · by_cases hi : i < 81
    · have e : i + 1 - 81 = 0 := by omega
      rw [e]
      have hb2 : mag (m - S / 8) ≤ 2000 := by unfold mag; split <;> omega
      simp only [nextV, if_true, fadeN]
      omega
    · have e : i + 1 - 81 = (i - 81) + 1 := by omega
      rw [e]
      have e1 := pullN_low (i - 80)
      have e2 := pullN_high (i - 80)
      have e3 : 80 + (i - 80) = i := by omega
      rw [e3] at e1 e2
      have hz : m - S / 8 = 0 := by omega
      simp only [nextV, if_true, hz]
      show _ ≤ fade _
      unfold mag fade
      simp only [Int.lt_irrefl, if_false]
      omega

theorem loop_steady (m : Int) (h0 : 0 ≤ m) (h1 : m ≤ 2000) :
    ∀ (d k i : Nat) (S V : Int), 120 - i = d → i ≤ 120 → d + 2 ≤ k → Valid true S V 0 → At m i S V →
    patchbaykeep3_TripSteady.l0 k m 0 i true S V 0 = some true := by
  intro d
  induction d with
  | zero =>
    intro k i S V hd hi hk hv ha
    obtain ⟨k, rfl⟩ : ∃ m, k = m + 2 := ⟨k - 2, by omega⟩
    obtain rfl : i = 120 := by omega
    obtain ⟨a, b, c⟩ := ha
    have e1 : pullN 120 (-16000) ≥ 0 := pullN_low 40
    have e2 : pullN 120 16007 ≤ 7 := pullN_high 40
    have c' : V ≤ fadeN 39 8000 := c
    have hf : fadeN 39 8000 < 4 := by decide +kernel
    obtain ⟨_, _, h3, h4, h5, h6, _⟩ := hv
    rw [patchbaykeep3_TripSteady.l0]
    rw [if_neg (by omega), if_pos rfl, Int.tdiv_eq_ediv_of_nonneg h3, wrap64_in (by omega)]
    rw [if_pos (by omega)]
    simp only [Option.some.injEq, decide_eq_true_eq]
    omega
  | succ d ih =>
    intro k i S V hd hi hk hv ha
    obtain ⟨k, rfl⟩ : ∃ m, k = m + 2 := ⟨k - 2, by omega⟩
    rw [patchbaykeep3_TripSteady.l0]
    rw [if_pos (by omega), if_pos rfl, sample_steady hv h0 h1, Option.bind_some]
    dsimp only
    rw [wrap64_in (by omega)]
    have h := ih (k + 1) (i + 1) _ _ (by omega) (by omega) (by omega) (hv.next h0 h1) (at_next hv ha h0 h1)
    have e : ((i + 1 : Nat) : Int) = (i : Int) + 1 := by omega
    rw [e] at h
    exact h

theorem TripSteady : patchbaykeep3_TripSteady.Pure := by
  intro l m hl hl8 hlw hm
  refine ⟨400, ?_⟩
  unfold patchbaykeep3_TripSteady.f
  have hfact : patchbaykeep3_tripFact.f 400 = some true := by decide +kernel
  rw [hfact]
  simp only [Option.bind_some, if_true, trip_First.f, patchbaykeep3_sampled.f]
  obtain ⟨H, S, V, h1, h2, -⟩ := sampled_steady l (fun _ _ _ _ => True) (fun _ _ _ _ _ _ _ _ => trivial) (min l.length 60) 400 0 false 0 0 (by omega) (by omega) (by omega) trivial
    ⟨by omega, by omega, by omega, by omega, by omega, by omega, fun _ => ⟨rfl, rfl⟩⟩
  have h1' : patchbaykeep3_sampled.l0 400 l 0 0 false 0 0 0 = some (H, S, V, 0, 0) := h1
  rw [h1', Option.bind_some]
  dsimp only
  simp only [patchbaykeep3_rest.f]
  rw [rest_eq (by omega) (by omega), Option.bind_some]
  have hm := @rst_bd m 2001 (by omega)
  generalize rst m 2001 = m at *
  rw [patchbaykeep3_TripSteady.l0]
  rw [if_pos (by omega), if_pos rfl, sample_steady h2 hm.1 (by omega), Option.bind_some]
  dsimp only
  obtain ⟨_, _, h3, h4, h5, h6, h7⟩ := h2
  have h2 : Valid H S V 0 := ⟨by omega, by omega, h3, h4, h5, h6, h7⟩
  have ew : wrap64 (0 + 1) = ((1 : Nat) : Int) := by decide +kernel
  rw [ew]
  refine loop_steady m hm.1 (by omega) 119 399 1 _ _ (by omega) (by omega) (by omega) (h2.next hm.1 (by omega)) ?_
  have hv := h2.next hm.1 (by omega : m ≤ 2000)
  have e1 : pullN 1 (-16000) = -14000 := by decide
  have e2 : pullN 1 16007 = 14007 := by decide
  obtain ⟨_, _, g3, g4, g5, g6, _⟩ := hv
  refine ⟨?_, ?_, g6⟩
  · rw [e1]
    cases H <;> simp [nextS] at * <;> omega
  · rw [e2]
    cases H <;> simp [nextS] at * <;> omega

end Go.Proofs.Ytbaccojgdbaeoaa.Pure
