/- The holes between separated spans, and that sack.Holes answers them. -/
import Derived.Test.YtlcccmaolbjcfaaSackBridge
import Derived.Test.YtlcccmaolbjcfaaHoles
namespace Go.Proofs.Ytlcccmaolbjcfaa.Sack
open Go.RowKit Go.Proofs.Ytlcccmaolbjcfaa.PSackMoves Go.Proofs.YtlcccmaolbjcfaaW.PrintWords Go.Proofs.Ytlcccmaolbjcfaa.Mine
set_option linter.unusedVariables false
set_option linter.unusedSimpArgs false

def gaps : Int → List S64 → List S64
  | _, [] => []
  | m, s :: l => ⟨m, s.f0⟩ :: gaps s.f1 l

theorem gaps_length (l : List S64) : ∀ m, (gaps m l).length = l.length := by
  induction l with
  | nil => intro m; rfl
  | cons s l ih => intro m; simp [gaps, ih]

theorem gaps_bd {n : Int} (l : List S64) : ∀ m, Sep m l → Upto n l → ∀ s ∈ gaps m l, m ≤ s.f0 ∧ s.f0 < s.f1 ∧ s.f1 ≤ n := by
  induction l with
  | nil => intro m _ _ s hs; cases hs
  | cons t l ih =>
    intro m h hu s hs
    obtain ⟨h1, h2, h3⟩ := h
    have ht := hu t (List.mem_cons_self ..)
    rcases List.mem_cons.mp hs with rfl | hs
    · exact ⟨by show m ≤ m; omega, h1, by show t.f0 ≤ n; omega⟩
    · have := ih t.f1 h3 (fun u hu' => hu u (List.mem_cons_of_mem _ hu')) s hs
      omega

theorem gaps_lower (l : List S64) : ∀ m p, Sep m l → Mem (gaps m l) p → m ≤ p := by
  induction l with
  | nil => intro m p _ h; exact absurd h (mem_nil p)
  | cons t l ih =>
    intro m p h g
    obtain ⟨h1, h2, h3⟩ := h
    rcases (mem_cons _ _ _).mp g with g | g
    · exact g.1
    · have := ih t.f1 p h3 g
      omega

/-- The end of the last span. -/
def lastE : Int → List S64 → Int
  | m, [] => m
  | _, s :: l => lastE s.f1 l

theorem lastE_get (l : List S64) : ∀ (m : Int) (h : 0 < l.length), (l[l.length - 1]'(by omega)).f1 = lastE m l := by
  induction l with
  | nil => intro m h; simp at h
  | cons s l ih =>
    intro m h
    show _ = lastE s.f1 l
    by_cases hl : 0 < l.length
    · rw [← ih s.f1 hl]
      congr 1
      have e : (s :: l).length - 1 = (l.length - 1) + 1 := by simp; omega
      simp only [e]
      rfl
    · have : l = [] := List.length_eq_zero_iff.mp (by omega)
      subst this
      rfl

theorem gaps_mem (l : List S64) : ∀ m p, Sep m l → m ≤ p → p < lastE m l → (Mem (gaps m l) p ↔ ¬ Mem l p) := by
  induction l with
  | nil => intro m p _ h1 h2; unfold lastE at h2; omega
  | cons t l ih =>
    intro m p h h1 h2
    obtain ⟨g1, g2, g3⟩ := h
    show Mem (⟨m, t.f0⟩ :: gaps t.f1 l) p ↔ _
    rw [mem_cons, mem_cons]
    show (m ≤ p ∧ p < t.f0) ∨ _ ↔ _
    by_cases c1 : p < t.f0
    · have n1 : ¬ Mem l p := fun g => by have := sep_lower g3 g; omega
      constructor
      · rintro _ (g | g)
        · omega
        · exact n1 g
      · exact fun _ => .inl ⟨h1, c1⟩
    · by_cases c2 : p < t.f1
      · have n1 : ¬ Mem (gaps t.f1 l) p := fun g => by have := gaps_lower l t.f1 p g3 g; omega
        constructor
        · rintro (g | g)
          · omega
          · exact absurd g n1
        · exact fun g => absurd (.inl ⟨by omega, c2⟩) g
      · have i := ih t.f1 p g3 (by omega) h2
        constructor
        · rintro (g | g)
          · omega
          · rintro (g' | g')
            · omega
            · exact i.mp g g'
        · intro g
          exact .inr (i.mpr fun g' => g (.inr g'))

theorem holes_loop {una : Int} (L : List S64) (hlen : L.length ≤ 1000) :
    ∀ (e k i : Nat) (out : List S31) (m : Int), L.length - i = e → i ≤ L.length → e < k → out.length ≤ i →
    sack_Holes.l0 k out ((una + m) % 4294967296) (L.map (absB una)) L.length i = some (out ++ (gaps m (L.drop i)).map (absB una), 0) := by
  intro e
  induction e with
  | zero =>
    intro k i out m he hi hk ho
    obtain ⟨k, rfl⟩ : ∃ m, k = m + 1 := ⟨k - 1, by omega⟩
    obtain rfl : i = L.length := by omega
    rw [sack_Holes.l0, if_neg (by omega), List.drop_length]
    simp [gaps]
  | succ e ih =>
    intro k i out m he hi hk ho
    obtain ⟨k, rfl⟩ : ∃ m, k = m + 1 := ⟨k - 1, by omega⟩
    have hlt : i < L.length := by omega
    have hpos : (i : Int) < (L.length : Int) := by omega
    rw [sack_Holes.l0, if_pos hpos, if_pos (by omega), if_pos (by simpa using hpos), rd31_abs hlt, if_pos (by omega), wrap64_in (n := (i : Int) + 1) (by omega), drop_cons hlt]
    have g := ih k (i + 1) (out ++ [⟨(una + m) % 4294967296, (absB una L[i]).f0⟩]) (L[i]).f1 (by omega) (by omega) (by omega) (by simp; omega)
    rw [nat_succ] at g
    have e1 : (absB una L[i]).f1 = (una + (L[i]).f1) % 4294967296 := rfl
    rw [e1, g]
    simp [gaps, absB]

theorem holes_f {una n : Int} {L : List S64} {k : Nat} (hu0 : 0 ≤ una) (hu1 : una < 4294967296) (h0 : 0 ≤ n) (h1 : n ≤ 300) (hs : Sep 0 L) (hu : Upto n L) (hk : 1000 ≤ k) :
    sack_Holes.f k una ((una + n) % 4294967296) (L.map (absB una)) = some ((gaps 0 L).map (absB una), 0) := by
  have hl := len_le h1 hs hu
  unfold sack_Holes.f
  rw [check_f h0 h1 hs hu (by omega), Option.bind_some, if_pos rfl]
  have g := holes_loop (una := una) L (by omega) L.length k 0 [] 0 (by omega) (by omega) (by omega) (by simp)
  have e : (una + 0) % 4294967296 = una := by omega
  rw [e] at g
  simpa using g

end Go.Proofs.Ytlcccmaolbjcfaa.Sack
