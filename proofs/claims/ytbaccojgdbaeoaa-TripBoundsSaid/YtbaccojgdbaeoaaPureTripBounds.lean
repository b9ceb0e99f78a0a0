/- After any measurements and timeouts the timeout is from TripLeast to TripMost, and the smoothed time is between the extreme measurements: for every list of ints and every int (reduced as the law reduces them). No condition. -/
import Derived.Test.YtbaccojgdbaeoaaTripB
import Derived.Test.YtbaccojgdbaeoaaMineTrip
namespace Go.Proofs.Ytbaccojgdbaeoaa.Pure
open Go.RowKit Go.Proofs.Ytbaccojgdbaeoaa.PTripBounds Go.Proofs.YtbaccojgdbaeoaaW.PrintWords Go.Proofs.YtbaccojgdbaeoaaW.PrintLast
open Go.Proofs.Ytbaccojgdbaeoaa.Mine

theorem fact_bounds : patchbaykeep3_tripFact.f 1 = some true := by decide +kernel

theorem check_bounds {H : Bool} {S V Sh : Int} (h : Valid H S V Sh) (k : Nat) : trip_Check.f (k + 1) H S V Sh = some 0 := by
  obtain ⟨h1, h2, h3, h4, h5, h6, h7⟩ := h
  have e1 : decide (Sh ≤ 10) = true := by simpa using h2
  have e2 : decide (S ≤ 16007) = true := by simpa using h4
  have e3 : decide (V ≤ 8000) = true := by simpa using h6
  unfold trip_Check.f trip_in.f
  rw [if_pos h1, if_pos h3, if_pos h5, e1, e2, e3]
  simp only [Option.bind_some, if_true, trip_Check.j0, Bool.not_true, Bool.false_eq_true, if_false]
  cases H with
  | true => simp
  | false =>
    obtain ⟨e4, e5⟩ := h7 rfl
    simp [e4, e5]

theorem sample_bounds {H : Bool} {S V Sh m : Int} (h : Valid H S V Sh) (hm0 : 0 ≤ m) (hm1 : m ≤ 2000) (k : Nat) :
    trip_Sample.f (k + 1) H S V Sh m = some (true, nextS H S m, nextV H S V m, 0, 0) := by
  unfold trip_Sample.f
  rw [check_bounds h k]
  obtain ⟨h1, h2, h3, h4, h5, h6, h7⟩ := h
  have em : decide (m ≤ 2000) = true := by simpa using hm1
  simp only [Option.bind_some, if_true, trip_in.f]
  rw [if_pos hm0, em]
  simp only [Option.bind_some, if_true]
  cases H with
  | true =>
    have e1 : Int.tdiv S 8 = S / 8 := Int.tdiv_eq_ediv_of_nonneg h3
    have e2 : Int.tdiv V 4 = V / 4 := Int.tdiv_eq_ediv_of_nonneg h5
    rw [if_pos rfl, e1, e2]
    rw [wrap64_in (n := S / 8) (by omega), wrap64_in (n := V / 4) (by omega), wrap64_in (n := m - S / 8) (by omega), wrap64_in (n := -(m - S / 8)) (by omega)]
    have e3 : mx (m - S / 8) (-(m - S / 8)) = mag (m - S / 8) := by unfold mx mag; split <;> split <;> omega
    have hb := mag_bd (m - S / 8)
    have hb2 : mag (m - S / 8) ≤ 2000 := by unfold mag; split <;> omega
    rw [e3, wrap64_in (n := mag (m - S / 8) - V / 4) (by omega), wrap64_in (n := S + (m - S / 8)) (by omega), wrap64_in (n := V + (mag (m - S / 8) - V / 4)) (by omega)]
    simp [nextS, nextV]
  | false =>
    rw [wrap64_in (n := 8 * m) (by omega), wrap64_in (n := 2 * m) (by omega)]
    simp [nextS, nextV]

theorem rest_bounds {n m : Int} (h0 : 0 < m) (h1 : m ≤ 9223372036854775807) : patchbaykeep3_rest.f n m = some (rst n m) := rest_eq h0 h1

theorem sampled_bounds (l : List Int) (I : Nat → Bool → Int → Int → Prop)
    (hI : ∀ i H S V, i < l.length → i < 60 → I i H S V → Valid H S V 0 → I (i + 1) true (nextS H S (rst (rd l i) 2001)) (nextV H S V (rst (rd l i) 2001))) :
    ∀ (d : Nat) (k i : Nat) (H : Bool) (S V : Int), min l.length 60 - i = d → i ≤ min l.length 60 → 2 * d + 2 ≤ k → I i H S V → Valid H S V 0 →
    ∃ H' S' V', patchbaykeep3_sampled.l0 k l 0 i H S V 0 = some (H', S', V', 0, 0) ∧ Valid H' S' V' 0 ∧ I (min l.length 60) H' S' V' := by
  intro d
  induction d with
  | zero =>
    intro k i H S V hd hi hk hinv hv
    obtain ⟨k, rfl⟩ : ∃ m, k = m + 2 := ⟨k - 2, by omega⟩
    have hi' : i = min l.length 60 := by omega
    refine ⟨H, S, V, ?_, hv, hi' ▸ hinv⟩
    simp only [patchbaykeep3_sampled.l0, patchbaykeep3_sampled.j1]
    by_cases h1 : (i : Int) < (l.length : Int)
    · rw [if_pos h1, if_neg (by omega)]
      simp
    · rw [if_neg h1]
      simp
  | succ d ih =>
    intro k i H S V hd hi hk hinv hv
    obtain ⟨k, rfl⟩ : ∃ m, k = m + 3 := ⟨k - 3, by omega⟩
    have hm := @rst_bd (rd l i) 2001 (by omega)
    obtain ⟨H', S', V', h1, h2, h3⟩ := ih (k + 1) (i + 1) true _ _ (by omega) (by omega) (by omega) (hI i H S V (by omega) (by omega) hinv hv) (hv.next hm.1 (by omega))
    refine ⟨H', S', V', ?_, h2, h3⟩
    rw [patchbaykeep3_sampled.l0, patchbaykeep3_sampled.j1]
    rw [if_pos (by omega), if_pos (by omega), if_pos (by simp), if_pos (by omega), if_pos (by omega)]
    simp only [patchbaykeep3_rest.f]
    rw [rest_eq (by omega) (by omega)]
    simp only [Option.bind_some]
    rw [sample_bounds hv hm.1 (by omega), Option.bind_some]
    dsimp only
    rw [wrap64_in (n := (i : Int) + 1) (by omega)]
    have e : ((i + 1 : Nat) : Int) = (i : Int) + 1 := by omega
    rw [e] at h1
    exact h1

theorem expire_bounds {H : Bool} {S V Sh : Int} (h : Valid H S V Sh) (k : Nat) :
    trip_Expire.f (k + 1) H S V Sh = some (H, S, V, if Sh < 10 then Sh + 1 else 10, 0) := by
  unfold trip_Expire.f
  rw [check_bounds h k, Option.bind_some, if_pos rfl]
  obtain ⟨h1, h2, h3, h4, h5, h6, h7⟩ := h
  rw [wrap64_in (by omega)]
  congr 5
  unfold mn
  split <;> split <;> omega

theorem timeout_bounds {H : Bool} {S V Sh : Int} (h : Valid H S V Sh) (k : Nat) :
    trip_Timeout.f (k + 1) H S V Sh = some (tmo H S V Sh, 0) := by
  unfold trip_Timeout.f
  rw [check_bounds h k, Option.bind_some, if_pos rfl]
  obtain ⟨h1, h2, h3, h4, h5, h6, h7⟩ := h
  cases H with
  | true =>
    rw [if_pos rfl, if_pos h1, Int.tdiv_eq_ediv_of_nonneg h3, wrap64_in (n := S / 8) (by omega)]
    have hm : mx V 1 ≤ 8000 ∧ 0 ≤ mx V 1 := by unfold mx; split <;> omega
    rw [wrap64_in (n := S / 8 + mx V 1) (by omega)]
    have e : mn (mx (S / 8 + mx V 1) 20) 2000 = base true S V := by
      unfold base mn mx
      simp only [if_true]
    rw [e, shl_eq (base_bd true S V) h1 h2]
    unfold tmo mn
    rfl
  | false =>
    rw [if_neg (by simp), if_pos h1]
    have e : (300 : Int) = base false S V := by unfold base; simp
    rw [e, shl_eq (base_bd false S V) h1 h2]
    unfold tmo mn
    rfl

/-- The least of the first n measurements, as the law finds it. -/
def low (l : List Int) : Nat → Int
  | 0 => 2000
  | n + 1 => mn (low l n) (rst (rd l n) 2001)
def high (l : List Int) : Nat → Int
  | 0 => 0
  | n + 1 => mx (high l n) (rst (rd l n) 2001)

theorem low_bd (l : List Int) (n : Nat) : low l n ≤ 2000 ∧ 0 ≤ high l n := by
  induction n with
  | zero => simp [low, high]
  | succ n ih =>
    have hm := @rst_bd (rd l n) 2001 (by omega)
    unfold low high mn mx
    split <;> split <;> omega

def Between (l : List Int) (i : Nat) (H : Bool) (S _V : Int) : Prop :=
  (H = true ↔ 0 < i) ∧ (0 < i → 8 * low l i ≤ S ∧ S ≤ 8 * high l i + 7)

theorem between_next (l : List Int) (i : Nat) (H : Bool) (S V : Int) (h : Between l i H S V) :
    Between l (i + 1) true (nextS H S (rst (rd l i) 2001)) (nextV H S V (rst (rd l i) 2001)) := by
  obtain ⟨h1, h2⟩ := h
  refine ⟨by simp, fun _ => ?_⟩
  have hm := @rst_bd (rd l i) 2001 (by omega)
  show 8 * mn (low l i) (rst (rd l i) 2001) ≤ _ ∧ _ ≤ 8 * mx (high l i) (rst (rd l i) 2001) + 7
  generalize rst (rd l i) 2001 = m at *
  cases H with
  | true =>
    obtain ⟨h3, h4⟩ := h2 (h1.mp rfl)
    simp only [nextS, if_true]
    unfold mn mx
    split <;> split <;> omega
  | false =>
    have hi : i = 0 := by
      rcases Nat.eq_zero_or_pos i with h | h
      · exact h
      · exact absurd (h1.mpr h) (by simp)
    subst hi
    simp only [nextS, low, high]
    unfold mn mx
    simp only [Bool.false_eq_true, if_false]
    split <;> split <;> omega

theorem last_bounds (x : Int) (H : Bool) (S V : Int) :
    ∀ (d k i : Nat), 15 - i = d → i ≤ 15 → d + 3 ≤ k → ∀ Sh, Valid H S V Sh → patchbaykeep3_TripBounds.l1 k x i H S V Sh = some true := by
  intro d
  induction d with
  | zero =>
    intro k i hd hi hk Sh hv
    obtain ⟨k, rfl⟩ : ∃ m, k = m + 3 := ⟨k - 3, by omega⟩
    have hx := @rst_bd x 15 (by omega)
    have hb := tmo_bd H S V Sh
    rw [patchbaykeep3_TripBounds.l1, rest_bounds (by omega) (by omega), Option.bind_some, if_neg (by omega), timeout_bounds hv, Option.bind_some]
    dsimp only
    rw [if_pos rfl, if_pos (by omega)]
    simp only [Option.some.injEq, decide_eq_true_eq]
    omega
  | succ d ih =>
    intro k i hd hi hk Sh hv
    obtain ⟨k, rfl⟩ : ∃ m, k = m + 3 := ⟨k - 3, by omega⟩
    have hx := @rst_bd x 15 (by omega)
    rw [patchbaykeep3_TripBounds.l1, rest_bounds (by omega) (by omega), Option.bind_some]
    by_cases hlt : (i : Int) < rst x 15
    · have hv' : Valid H S V (if Sh < 10 then Sh + 1 else 10) := by
        obtain ⟨h1, h2, h3⟩ := hv
        refine ⟨?_, ?_, h3⟩ <;> split <;> omega
      rw [if_pos hlt, expire_bounds hv, Option.bind_some]
      dsimp only
      rw [if_pos rfl, wrap64_in (n := (i : Int) + 1) (by omega)]
      have h := ih (k + 2) (i + 1) (by omega) (by omega) (by omega) _ hv'
      have e : ((i + 1 : Nat) : Int) = (i : Int) + 1 := by omega
      rw [e] at h
      exact h
    · have hb := tmo_bd H S V Sh
      rw [if_neg hlt, timeout_bounds hv, Option.bind_some]
      dsimp only
      rw [if_pos rfl, if_pos (by omega)]
      simp only [Option.some.injEq, decide_eq_true_eq]
      omega

theorem first_bounds (l : List Int) (x : Int) (H : Bool) (S V : Int) (hv : Valid H S V 0) (hb : Between l l.length H S V) (hl : l.length ≤ 60) :
    ∀ (d k i : Nat), l.length - i = d → i ≤ l.length → d + 40 ≤ k →
    patchbaykeep3_TripBounds.l0 k l x (low l i) (high l i) i H S V 0 = some true := by
  intro d
  induction d with
  | zero =>
    intro k i hd hi hk
    obtain ⟨k, rfl⟩ : ∃ m, k = m + 3 := ⟨k - 3, by omega⟩
    obtain rfl : i = l.length := by omega
    rw [patchbaykeep3_TripBounds.l0, if_neg (by omega)]
    obtain ⟨h1, h2⟩ := hb
    have hlast := last_bounds x H S V 15 (k + 1) 0 (by omega) (by omega) (by omega) 0 hv
    have e0 : ((0 : Nat) : Int) = 0 := rfl
    rw [e0] at hlast
    obtain ⟨_, _, h3, h4, h5, h6, h7⟩ := hv
    rw [Int.tdiv_eq_ediv_of_nonneg h3, wrap64_in (n := S / 8) (by omega)]
    by_cases hz : 0 < l.length
    · obtain ⟨h8, h9⟩ := h2 hz
      have e : decide (S / 8 > high l l.length) = false := by simp; omega
      rw [if_pos (by omega), if_neg (by omega), e, patchbaykeep3_TripBounds.j1, if_neg (by simp)]
      exact hlast
    · rw [if_neg (by omega), patchbaykeep3_TripBounds.j1, if_neg (by simp)]
      exact hlast
  | succ d ih =>
    intro k i hd hi hk
    obtain ⟨k, rfl⟩ : ∃ m, k = m + 1 := ⟨k - 1, by omega⟩
    rw [patchbaykeep3_TripBounds.l0, if_pos (by omega), if_pos (by omega), rest_bounds (by omega) (by omega), Option.bind_some, wrap64_in (by omega)]
    have h := ih k (i + 1) (by omega) (by omega) (by omega)
    have e : ((i + 1 : Nat) : Int) = (i : Int) + 1 := by omega
    rw [e] at h
    exact h

theorem TripBounds : patchbaykeep3_TripBounds.Pure := by
  intro l x hl hl8 hlw hx
  refine ⟨400, ?_⟩
  unfold patchbaykeep3_TripBounds.f
  have hfact : patchbaykeep3_tripFact.f 400 = some true := by decide +kernel
  have e : mn (l.length : Int) 60 = ((min l.length 60 : Nat) : Int) := by unfold mn; split <;> omega
  rw [hfact, Option.bind_some, if_pos rfl, e, if_pos (by omega), if_pos (by omega)]
  have e2 : ((min l.length 60 : Nat) : Int).toNat = min l.length 60 := by omega
  rw [e2]
  have hlen : (l.take (min l.length 60)).length = min l.length 60 := by rw [List.length_take]; omega
  generalize l.take (min l.length 60) = t at *
  have ht : t.length ≤ 60 := by omega
  simp only [trip_First.f]
  rw [Option.bind_some]
  dsimp only
  simp only [patchbaykeep3_sampled.f]
  obtain ⟨H, S, V, h1, h2, h3⟩ := sampled_bounds t (Between t) (fun i H S V _ _ h _ => between_next t i H S V h) (min t.length 60) 400 0 false 0 0 (by omega) (by omega) (by omega) ⟨by simp, fun h => absurd h (by omega)⟩
    ⟨by omega, by omega, by omega, by omega, by omega, by omega, fun _ => ⟨rfl, rfl⟩⟩
  have e0 : ((0 : Nat) : Int) = 0 := rfl
  rw [e0] at h1
  have e3 : min t.length 60 = t.length := by omega
  rw [e3] at h3
  rw [h1, Option.bind_some]
  dsimp only
  rw [if_pos rfl]
  exact first_bounds t x H S V h2 h3 ht t.length 400 0 (by omega) (by omega) (by omega)

end Go.Proofs.Ytbaccojgdbaeoaa.Pure
