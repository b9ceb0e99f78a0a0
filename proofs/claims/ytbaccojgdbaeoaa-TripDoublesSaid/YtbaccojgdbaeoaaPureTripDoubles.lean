/- A timeout doubles the timeout, up to TripMost, and a measurement undoes all doublings: for every list of ints and all ints (reduced as the law reduces them). No condition. -/
import Derived.Test.YtbaccojgdbaeoaaPTripDoublesx4
import Derived.Test.YtbaccojgdbaeoaaMineTrip
namespace Go.Proofs.Ytbaccojgdbaeoaa.Pure
open Go.RowKit Go.Proofs.Ytbaccojgdbaeoaa.PTripDoubles Go.Proofs.YtbaccojgdbaeoaaW.PrintWords Go.Proofs.YtbaccojgdbaeoaaW.PrintLast
open Go.Proofs.Ytbaccojgdbaeoaa.Mine

theorem fact_doubles : patchbaykeep3_tripFact.f 1 = some true := by decide +kernel

theorem check_doubles {H : Bool} {S V Sh : Int} (h : Valid H S V Sh) (k : Nat) : trip_Check.f (k + 1) H S V Sh = some 0 := by
  obtain ⟨h1, h2, h3, h4, h5, h6, h7⟩ := h
  have e1 : decide (Sh ≤ 10) = true := by simpa using h2
  have e2 : decide (S ≤ 16007) = true := by simpa using h4
  have e3 : decide (V ≤ 8000) = true := by simpa using h6
  unfold trip_Check.f trip_in.f
  rw [if_pos h1, if_pos h3, if_pos h5, e1, e2, e3]
  simp only [Option.bind_some, if_true, trip_Check.j0, Bool.not_true, Bool.false_eq_true, if_false]
  cases H with
  | true => simp
  | false =>
    obtain ⟨e4, e5⟩ := h7 rfl
    simp [e4, e5]

theorem sample_doubles {H : Bool} {S V Sh m : Int} (h : Valid H S V Sh) (hm0 : 0 ≤ m) (hm1 : m ≤ 2000) (k : Nat) :
    trip_Sample.f (k + 1) H S V Sh m = some (true, nextS H S m, nextV H S V m, 0, 0) := by
  unfold trip_Sample.f
  rw [check_doubles h k]
  obtain ⟨h1, h2, h3, h4, h5, h6, h7⟩ := h
  have em : decide (m ≤ 2000) = true := by simpa using hm1
  simp only [Option.bind_some, if_true, trip_in.f]
  rw [if_pos hm0, em]
  simp only [Option.bind_some, if_true]
  cases H with
  | true =>
    have e1 : Int.tdiv S 8 = S / 8 := Int.tdiv_eq_ediv_of_nonneg h3
    have e2 : Int.tdiv V 4 = V / 4 := Int.tdiv_eq_ediv_of_nonneg h5
    rw [if_pos rfl, e1, e2]
    rw [wrap64_in (n := S / 8) (by omega), wrap64_in (n := V / 4) (by omega), wrap64_in (n := m - S / 8) (by omega), wrap64_in (n := -(m - S / 8)) (by omega)]
    have e3 : mx (m - S / 8) (-(m - S / 8)) = mag (m - S / 8) := by unfold mx mag; split <;> split <;> omega
    have hb := mag_bd (m - S / 8)
    have hb2 : mag (m - S / 8) ≤ 2000 := by unfold mag; split <;> omega
    rw [e3, wrap64_in (n := mag (m - S / 8) - V / 4) (by omega), wrap64_in (n := S + (m - S / 8)) (by omega), wrap64_in (n := V + (mag (m - S / 8) - V / 4)) (by omega)]
    simp [nextS, nextV]
  | false =>
    rw [wrap64_in (n := 8 * m) (by omega), wrap64_in (n := 2 * m) (by omega)]
    simp [nextS, nextV]

theorem sampled_doubles (l : List Int) (I : Nat → Bool → Int → Int → Prop)
    (hI : ∀ i H S V, i < l.length → i < 60 → I i H S V → Valid H S V 0 → I (i + 1) true (nextS H S (rst (rd l i) 2001)) (nextV H S V (rst (rd l i) 2001))) :
    ∀ (d : Nat) (k i : Nat) (H : Bool) (S V : Int), min l.length 60 - i = d → i ≤ min l.length 60 → 2 * d + 2 ≤ k → I i H S V → Valid H S V 0 →
    ∃ H' S' V', patchbaykeep3_sampled.l0 k l 0 i H S V 0 = some (H', S', V', 0, 0) ∧ Valid H' S' V' 0 ∧ I (min l.length 60) H' S' V' := by
  intro d
  induction d with
  | zero =>
    intro k i H S V hd hi hk hinv hv
    obtain ⟨k, rfl⟩ : ∃ m, k = m + 2 := ⟨k - 2, by omega⟩
    have hi' : i = min l.length 60 := by omega
    refine ⟨H, S, V, ?_, hv, hi' ▸ hinv⟩
    simp only [patchbaykeep3_sampled.l0, patchbaykeep3_sampled.j1]
    by_cases h1 : (i : Int) < (l.length : Int)
    · rw [if_pos h1, if_neg (by omega)]
      simp
    · rw [if_neg h1]
      simp
  | succ d ih =>
    intro k i H S V hd hi hk hinv hv
    obtain ⟨k, rfl⟩ : ∃ m, k = m + 3 := ⟨k - 3, by omega⟩
    have hm := @rst_bd (rd l i) 2001 (by omega)
    obtain ⟨H', S', V', h1, h2, h3⟩ := ih (k + 1) (i + 1) true _ _ (by omega) (by omega) (by omega) (hI i H S V (by omega) (by omega) hinv hv) (hv.next hm.1 (by omega))
    refine ⟨H', S', V', ?_, h2, h3⟩
    rw [patchbaykeep3_sampled.l0, patchbaykeep3_sampled.j1]
    rw [if_pos (by omega), if_pos (by omega), if_pos (by simp), if_pos (by omega), if_pos (by omega)]
    simp only [patchbaykeep3_rest.f]
    rw [rest_eq (by omega) (by omega)]
    simp only [Option.bind_some]
    rw [sample_doubles hv hm.1 (by omega), Option.bind_some]
    dsimp only
    rw [wrap64_in (n := (i : Int) + 1) (by omega)]
    have e : ((i + 1 : Nat) : Int) = (i : Int) + 1 := by omega
    rw [e] at h1
    exact h1

theorem expire_doubles {H : Bool} {S V Sh : Int} (h : Valid H S V Sh) (k : Nat) :
    trip_Expire.f (k + 1) H S V Sh = some (H, S, V, if Sh < 10 then Sh + 1 else 10, 0) := by
  unfold trip_Expire.f
  rw [check_doubles h k, Option.bind_some, if_pos rfl]
  obtain ⟨h1, h2, h3, h4, h5, h6, h7⟩ := h
  rw [wrap64_in (by omega)]
  congr 5
  unfold mn
  split <;> split <;> omega

theorem timeout_doubles {H : Bool} {S V Sh : Int} (h : Valid H S V Sh) (k : Nat) :
    trip_Timeout.f (k + 1) H S V Sh = some (tmo H S V Sh, 0) := by
  unfold trip_Timeout.f
  rw [check_doubles h k, Option.bind_some, if_pos rfl]
  obtain ⟨h1, h2, h3, h4, h5, h6, h7⟩ := h
  cases H with
  | true =>
    rw [if_pos rfl, if_pos h1, Int.tdiv_eq_ediv_of_nonneg h3, wrap64_in (n := S / 8) (by omega)]
    have hm : mx V 1 ≤ 8000 ∧ 0 ≤ mx V 1 := by unfold mx; split <;> omega
    rw [wrap64_in (n := S / 8 + mx V 1) (by omega)]
    have e : mn (mx (S / 8 + mx V 1) 20) 2000 = base true S V := by
      unfold base mn mx
      simp only [if_true]
    rw [e, shl_eq (base_bd true S V) h1 h2]
    unfold tmo mn
    rfl
  | false =>
    rw [if_neg (by simp), if_pos h1]
    have e : (300 : Int) = base false S V := by unfold base; simp
    rw [e, shl_eq (base_bd false S V) h1 h2]
    unfold tmo mn
    rfl

theorem rest_doubles {n m : Int} (h0 : 0 < m) (h1 : m ≤ 9223372036854775807) : patchbaykeep3_rest.f n m = some (rst n m) := rest_eq h0 h1

theorem loop_doubles (x m : Int) (H : Bool) (S V : Int) :
    ∀ (d k i : Nat), 10 - i = d → i ≤ 10 → d + 3 ≤ k → Valid H S V i →
    patchbaykeep3_TripDoubles.l0 k x m i H S V i true (nextS H S (rst m 2001)) (nextV H S V (rst m 2001)) 0 = some true := by
  intro d
  induction d with
  | zero =>
    intro k i hd hi hk hv
    obtain ⟨k, rfl⟩ : ∃ m, k = m + 3 := ⟨k - 3, by omega⟩
    have hx := @rst_bd x 10 (by omega)
    have hm := @rst_bd m 2001 (by omega)
    rw [patchbaykeep3_TripDoubles.l0]
    rw [rest_doubles (by omega) (by omega), Option.bind_some, if_neg (by omega), rest_doubles (by omega) (by omega), Option.bind_some]
    rw [sample_doubles hv hm.1 (by omega), Option.bind_some]
    simp
  | succ d ih =>
    intro k i hd hi hk hv
    obtain ⟨k, rfl⟩ : ∃ m, k = m + 3 := ⟨k - 3, by omega⟩
    have hx := @rst_bd x 10 (by omega)
    have hm := @rst_bd m 2001 (by omega)
    rw [patchbaykeep3_TripDoubles.l0]
    rw [rest_doubles (by omega) (by omega), Option.bind_some]
    by_cases hlt : (i : Int) < rst x 10
    · have e : ((i + 1 : Nat) : Int) = (i : Int) + 1 := by omega
      have hv' : Valid H S V ((i : Int) + 1) := by
        obtain ⟨h1, h2, h3⟩ := hv
        exact ⟨by omega, by omega, h3⟩
      have ee : (if (i : Int) < 10 then (i : Int) + 1 else 10) = (i : Int) + 1 := if_pos (by omega)
      have hb := tmo_bd H S V i
      rw [if_pos hlt, timeout_doubles hv, Option.bind_some, expire_doubles hv, ee, Option.bind_some]
      dsimp only
      rw [timeout_doubles hv', Option.bind_some]
      dsimp only
      rw [if_pos rfl, wrap64_in (n := 2 * tmo H S V i) (by omega), wrap64_in (n := (i : Int) + 1) (by omega)]
      have e2 : tmo H S V ((i : Int) + 1) = mn (2 * tmo H S V i) 2000 := by rw [tmo_succ]; rfl
      rw [if_pos e2]
      have h := ih (k + 2) (i + 1) (by omega) (by omega) (by omega) (e ▸ hv')
      rw [e] at h
      exact h
    · rw [if_neg hlt, rest_doubles (by omega) (by omega), Option.bind_some, sample_doubles hv hm.1 (by omega), Option.bind_some]
      simp

theorem TripDoubles : patchbaykeep3_TripDoubles.Pure := by
  intro l x m hl hl8 hlw hx hm
  refine ⟨400, ?_⟩
  unfold patchbaykeep3_TripDoubles.f
  have hfact : patchbaykeep3_tripFact.f 400 = some true := by decide +kernel
  rw [hfact, Option.bind_some, if_pos rfl]
  simp only [trip_First.f]
  rw [Option.bind_some]
  dsimp only
  simp only [patchbaykeep3_sampled.f]
  obtain ⟨H, S, V, h1, h2, -⟩ := sampled_doubles l (fun _ _ _ _ => True) (fun _ _ _ _ _ _ _ _ => trivial) (min l.length 60) 400 0 false 0 0 (by omega) (by omega) (by omega) trivial
    ⟨by omega, by omega, by omega, by omega, by omega, by omega, fun _ => ⟨rfl, rfl⟩⟩
  have e : ((0 : Nat) : Int) = 0 := rfl
  rw [e] at h1
  rw [h1, Option.bind_some]
  dsimp only
  have hm := @rst_bd m 2001 (by omega)
  rw [if_pos rfl, rest_doubles (by omega) (by omega), Option.bind_some, sample_doubles h2 hm.1 (by omega), Option.bind_some]
  dsimp only
  have h := loop_doubles x m H S V 10 400 0 (by omega) (by omega) (by omega) h2
  rw [e] at h
  exact h

end Go.Proofs.Ytbaccojgdbaeoaa.Pure
