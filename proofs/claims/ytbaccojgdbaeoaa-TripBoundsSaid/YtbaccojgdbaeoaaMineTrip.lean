/- The estimator of round-trip times as plain arithmetic: its valid states and what one measurement makes of them. -/
import Derived.Test.YtbaccojgdbaeoaaMine
import Derived.Test.YtbaccojgdbaeoaaMineWords
import Derived.Test.YtbaccojgdbaeoaaWMore
namespace Go.Proofs.Ytbaccojgdbaeoaa.Mine
open Go.RowKit

def Valid (H : Bool) (S V Sh : Int) : Prop :=
  Sh ≥ 0 ∧ Sh ≤ 10 ∧ S ≥ 0 ∧ S ≤ 16007 ∧ V ≥ 0 ∧ V ≤ 8000 ∧ (H = false → S = 0 ∧ V = 0)

/-- The magnitude of a number. -/
def mag (x : Int) : Int := if x < 0 then -x else x

theorem mag_bd (x : Int) : 0 ≤ mag x := by unfold mag; split <;> omega

def nextS (H : Bool) (S m : Int) : Int := if H then S + (m - S / 8) else 8 * m
def nextV (H : Bool) (S V m : Int) : Int := if H then V + (mag (m - S / 8) - V / 4) else 2 * m

theorem Valid.next {H : Bool} {S V Sh m : Int} (h : Valid H S V Sh) (h0 : 0 ≤ m) (h1 : m ≤ 2000) : Valid true (nextS H S m) (nextV H S V m) 0 := by
  obtain ⟨_, _, h3, h4, h5, h6, _⟩ := h
  cases H with
  | true =>
    have hb := mag_bd (m - S / 8)
    have hb2 : mag (m - S / 8) ≤ 2000 := by unfold mag; split <;> omega
    refine ⟨by omega, by omega, ?_, ?_, ?_, ?_, by simp⟩ <;> simp only [nextS, nextV, if_true] <;> omega
  | false => refine ⟨by omega, by omega, ?_, ?_, ?_, ?_, by simp⟩ <;> simp [nextS, nextV] <;> omega

/-- The timeout without doublings. -/
def base (H : Bool) (S V : Int) : Int :=
  if H then (if 2000 < (if S / 8 + (if V < 1 then 1 else V) < 20 then 20 else S / 8 + (if V < 1 then 1 else V)) then 2000 else (if S / 8 + (if V < 1 then 1 else V) < 20 then 20 else S / 8 + (if V < 1 then 1 else V))) else 300

theorem base_bd (H : Bool) (S V : Int) : 20 ≤ base H S V ∧ base H S V ≤ 2000 := by
  unfold base
  cases H <;> simp only [if_true, Bool.false_eq_true, if_false] <;> omega

/-- The timeout of an estimator. -/
def tmo (H : Bool) (S V Sh : Int) : Int := if 2000 < base H S V * 2 ^ Sh.toNat then 2000 else base H S V * 2 ^ Sh.toNat

theorem shl_eq {b Sh : Int} (hb : 20 ≤ b ∧ b ≤ 2000) (h1 : Sh ≥ 0) (h2 : Sh ≤ 10) : Go.Proofs.YtbaccojgdbaeoaaW.PrintWords.shl .i64 b Sh = b * 2 ^ Sh.toNat := by
  unfold Go.Proofs.YtbaccojgdbaeoaaW.PrintWords.shl
  have e : min Sh.toNat IntKind.i64.bits = Sh.toNat := by
    have : IntKind.i64.bits = 64 := rfl
    omega
  rw [e, IntKind.wrap_i64]
  have hp : (1 : Int) ≤ 2 ^ Sh.toNat ∧ (2 : Int) ^ Sh.toNat ≤ 1024 := by
    have : Sh.toNat ≤ 10 := by omega
    generalize Sh.toNat = n at *
    have : n = 0 ∨ n = 1 ∨ n = 2 ∨ n = 3 ∨ n = 4 ∨ n = 5 ∨ n = 6 ∨ n = 7 ∨ n = 8 ∨ n = 9 ∨ n = 10 := by omega
    rcases this with rfl | rfl | rfl | rfl | rfl | rfl | rfl | rfl | rfl | rfl | rfl <;> decide
  have h3 : 0 ≤ b * 2 ^ Sh.toNat := Int.mul_nonneg (by omega) (by omega)
  have h4 : b * 2 ^ Sh.toNat ≤ 2000 * 1024 := Int.mul_le_mul hb.2 hp.2 (by omega) (by omega)
  omega

theorem tmo_bd (H : Bool) (S V Sh : Int) : 20 ≤ tmo H S V Sh ∧ tmo H S V Sh ≤ 2000 := by
  have hb := base_bd H S V
  have hp : (1 : Int) ≤ 2 ^ Sh.toNat := by
    have : (0 : Int) < 2 ^ Sh.toNat := Int.pow_pos (by omega)
    omega
  have h3 : 20 * 1 ≤ base H S V * 2 ^ Sh.toNat := Int.mul_le_mul hb.1 hp (by omega) (by omega)
  unfold tmo
  split <;> omega

theorem tmo_succ (H : Bool) (S V : Int) (i : Nat) : tmo H S V ((i : Int) + 1) = if 2000 < 2 * tmo H S V i then 2000 else 2 * tmo H S V i := by
  have e1 : ((i : Int) + 1).toNat = i + 1 := by omega
  have e2 : ((i : Int)).toNat = i := by omega
  have hb := base_bd H S V
  unfold tmo
  rw [e1, e2, Int.pow_succ, ← Int.mul_assoc]
  generalize base H S V * 2 ^ i = x
  split <;> split <;> (try split) <;> omega

end Go.Proofs.Ytbaccojgdbaeoaa.Mine
