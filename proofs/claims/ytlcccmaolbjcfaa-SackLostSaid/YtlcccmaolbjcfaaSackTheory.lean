/- Separated ascending spans of distances as sets of numbers: insertion, and that two lists with the same members are the same. No program is in sight here. -/
import Derived.Test.YtlcccmaolbjcfaaPSackMovesx0
import Derived.Test.YtlcccmaolbjcfaaMine
namespace Go.Proofs.Ytlcccmaolbjcfaa.Sack
open Go.RowKit Go.Proofs.Ytlcccmaolbjcfaa.PSackMoves Go.Proofs.YtlcccmaolbjcfaaW.PrintWords

theorem S64_ext {a b : S64} (h0 : a.f0 = b.f0) (h1 : a.f1 = b.f1) : a = b := by
  cases a; cases b; simp at h0 h1; subst h0; subst h1; rfl

/-- Is the number in one of the spans? -/
def memB (l : List S64) (p : Int) : Bool := l.any fun s => decide (s.f0 ≤ p) && decide (p < s.f1)
def Mem (l : List S64) (p : Int) : Prop := memB l p = true

theorem mem_nil (p : Int) : ¬ Mem [] p := by simp [Mem, memB]
theorem mem_cons (s : S64) (l : List S64) (p : Int) : Mem (s :: l) p ↔ (s.f0 ≤ p ∧ p < s.f1) ∨ Mem l p := by
  simp [Mem, memB]
theorem mem_append (a b : List S64) (p : Int) : Mem (a ++ b) p ↔ Mem a p ∨ Mem b p := by
  simp [Mem, memB]

/-- Ascending, not empty, separated from each other and from m. -/
def Sep : Int → List S64 → Prop
  | _, [] => True
  | m, s :: l => m < s.f0 ∧ s.f0 < s.f1 ∧ Sep s.f1 l

theorem sep_mono {m m' : Int} {l : List S64} (h : Sep m l) (hm : m' ≤ m) : Sep m' l := by
  cases l with
  | nil => trivial
  | cons s l => exact ⟨by have := h.1; omega, h.2⟩

theorem sep_lower {l : List S64} : ∀ {m p : Int}, Sep m l → Mem l p → m < p := by
  induction l with
  | nil => intro m p _ h; exact absurd h (mem_nil p)
  | cons s l ih =>
    intro m p hs h
    obtain ⟨h1, h2, h3⟩ := hs
    rcases (mem_cons s l p).mp h with h | h
    · omega
    · have := ih h3 h
      omega

/-- The insertion of a span, as the program does it. -/
def ins : List S64 → S64 → List S64
  | [], x => [x]
  | y :: l, x => if y.f1 < x.f0 then y :: ins l x else if x.f1 < y.f0 then x :: y :: l else ins l ⟨mn x.f0 y.f0, mx x.f1 y.f1⟩

theorem ins_spec (l : List S64) : ∀ (m : Int) (x : S64), Sep m l → m < x.f0 → x.f0 < x.f1 →
    Sep m (ins l x) ∧ ∀ p, Mem (ins l x) p ↔ (Mem l p ∨ (x.f0 ≤ p ∧ p < x.f1)) := by
  induction l with
  | nil =>
    intro m x _ h1 h2
    refine ⟨⟨h1, h2, trivial⟩, fun p => ?_⟩
    have h0 := mem_nil p
    show Mem [x] p ↔ _
    rw [mem_cons]
    constructor <;> intro h <;> rcases h with h | h <;> first | exact .inr h | exact .inl h | exact absurd h h0
  | cons y l ih =>
    intro m x hs h1 h2
    obtain ⟨g1, g2, g3⟩ := hs
    unfold ins
    by_cases c1 : y.f1 < x.f0
    · rw [if_pos c1]
      obtain ⟨i1, i2⟩ := ih y.f1 x g3 c1 h2
      refine ⟨⟨g1, g2, i1⟩, fun p => ?_⟩
      rw [mem_cons, mem_cons, i2]
      exact or_assoc.symm
    · rw [if_neg c1]
      by_cases c2 : x.f1 < y.f0
      · rw [if_pos c2]
        refine ⟨⟨h1, h2, c2, g2, g3⟩, fun p => ?_⟩
        rw [mem_cons]
        exact or_comm
      · rw [if_neg c2]
        have a1 : m < mn x.f0 y.f0 := by unfold mn; split <;> omega
        have a2 : mn x.f0 y.f0 < mx x.f1 y.f1 := by unfold mn mx; split <;> split <;> omega
        obtain ⟨i1, i2⟩ := ih m ⟨mn x.f0 y.f0, mx x.f1 y.f1⟩ (sep_mono g3 (by omega)) a1 a2
        refine ⟨i1, fun p => ?_⟩
        rw [i2, mem_cons]
        have e : (mn x.f0 y.f0 ≤ p ∧ p < mx x.f1 y.f1) ↔ ((y.f0 ≤ p ∧ p < y.f1) ∨ (x.f0 ≤ p ∧ p < x.f1)) := by
          unfold mn mx
          split <;> split <;> omega
        show Mem l p ∨ (mn x.f0 y.f0 ≤ p ∧ p < mx x.f1 y.f1) ↔ _
        rw [e]
        constructor
        · rintro (h | h | h)
          · exact .inl (.inr h)
          · exact .inl (.inl h)
          · exact .inr h
        · rintro ((h | h) | h)
          · exact .inr (.inl h)
          · exact .inl h
          · exact .inr (.inr h)

theorem ins_length (l : List S64) : ∀ x, (ins l x).length ≤ l.length + 1 := by
  induction l with
  | nil => intro x; simp [ins]
  | cons y l ih =>
    intro x
    unfold ins
    split
    · have := ih x; simp; omega
    · split
      · simp
      · have := ih ⟨mn x.f0 y.f0, mx x.f1 y.f1⟩; simp; omega

/-- Two lists of separated spans with the same members are the same list. -/
theorem uniq (a : List S64) : ∀ (b : List S64) (m : Int), Sep m a → Sep m b → (∀ p, Mem a p ↔ Mem b p) → a = b := by
  induction a with
  | nil =>
    intro b m _ hb h
    cases b with
    | nil => rfl
    | cons t b =>
      have : Mem (t :: b) t.f0 := (mem_cons _ _ _).mpr (.inl ⟨by omega, hb.2.1⟩)
      exact absurd ((h _).mpr this) (mem_nil _)
  | cons s a ih =>
    intro b m ha hb h
    cases b with
    | nil =>
      have : Mem (s :: a) s.f0 := (mem_cons _ _ _).mpr (.inl ⟨by omega, ha.2.1⟩)
      exact absurd ((h _).mp this) (mem_nil _)
    | cons t b =>
      obtain ⟨a1, a2, a3⟩ := ha
      obtain ⟨b1, b2, b3⟩ := hb
      have m1 : Mem (t :: b) s.f0 := (h _).mp ((mem_cons _ _ _).mpr (.inl ⟨by omega, a2⟩))
      have m2 : Mem (s :: a) t.f0 := (h _).mpr ((mem_cons _ _ _).mpr (.inl ⟨by omega, b2⟩))
      have e0 : s.f0 = t.f0 := by
        rcases (mem_cons _ _ _).mp m1 with g | g
        · rcases (mem_cons _ _ _).mp m2 with g' | g'
          · omega
          · have := sep_lower a3 g'; omega
        · have := sep_lower b3 g
          rcases (mem_cons _ _ _).mp m2 with g' | g'
          · omega
          · have := sep_lower a3 g'; omega
      have ns : ¬ Mem (s :: a) s.f1 := by
        intro g
        rcases (mem_cons _ _ _).mp g with g | g
        · omega
        · have := sep_lower a3 g; omega
      have nt : ¬ Mem (t :: b) t.f1 := by
        intro g
        rcases (mem_cons _ _ _).mp g with g | g
        · omega
        · have := sep_lower b3 g; omega
      have e1 : s.f1 = t.f1 := by
        rcases Int.lt_trichotomy s.f1 t.f1 with g | g | g
        · exact absurd ((h _).mpr ((mem_cons _ _ _).mpr (.inl ⟨by omega, g⟩))) ns
        · exact g
        · exact absurd ((h _).mp ((mem_cons _ _ _).mpr (.inl ⟨by omega, g⟩))) nt
      have est : s = t := S64_ext e0 e1
      subst est
      congr 1
      refine ih b s.f1 a3 b3 fun p => ?_
      constructor
      · intro g
        have := sep_lower a3 g
        rcases (mem_cons _ _ _).mp ((h p).mp ((mem_cons _ _ _).mpr (.inr g))) with g' | g'
        · omega
        · exact g'
      · intro g
        have := sep_lower b3 g
        rcases (mem_cons _ _ _).mp ((h p).mpr ((mem_cons _ _ _).mpr (.inr g))) with g' | g'
        · omega
        · exact g'

/-- Spans before n. -/
def Upto (n : Int) (l : List S64) : Prop := ∀ s ∈ l, s.f1 ≤ n

theorem sep_pos {l : List S64} : ∀ {m : Int}, Sep m l → ∀ s ∈ l, m < s.f0 ∧ s.f0 < s.f1 := by
  induction l with
  | nil => intro m _ s hs; cases hs
  | cons t l ih =>
    intro m h s hs
    obtain ⟨h1, h2, h3⟩ := h
    rcases List.mem_cons.mp hs with rfl | hs
    · exact ⟨h1, h2⟩
    · have := ih h3 s hs; omega

theorem upto_of_mem {n m : Int} {l : List S64} (hs : Sep m l) (h : ∀ p, Mem l p → p < n) : Upto n l := by
  intro s hsl
  have h1 := sep_pos hs s hsl
  have : Mem l (s.f1 - 1) := by
    unfold Mem memB
    rw [List.any_eq_true]
    exact ⟨s, hsl, by simp; omega⟩
  have := h _ this
  omega

theorem mem_of_span {l : List S64} {s : S64} {p : Int} (hs : s ∈ l) (h0 : s.f0 ≤ p) (h1 : p < s.f1) : Mem l p := by
  unfold Mem memB
  rw [List.any_eq_true]
  exact ⟨s, hs, by simp; omega⟩

theorem mem_elim {l : List S64} {p : Int} (h : Mem l p) : ∃ s ∈ l, s.f0 ≤ p ∧ p < s.f1 := by
  unfold Mem memB at h
  rw [List.any_eq_true] at h
  obtain ⟨s, h1, h2⟩ := h
  exact ⟨s, h1, by simpa using h2⟩

theorem sep_length {n : Int} (l : List S64) : ∀ (m : Int), Sep m l → Upto n l → l ≠ [] → m + 2 * (l.length : Int) ≤ n := by
  induction l with
  | nil => intro m _ _ h; exact absurd rfl h
  | cons s l ih =>
    intro m h hu _
    obtain ⟨h1, h2, h3⟩ := h
    have h4 := hu s (List.mem_cons_self ..)
    by_cases hl : l = []
    · subst hl; simp; omega
    · have := ih s.f1 h3 (fun t ht => hu t (List.mem_cons_of_mem _ ht)) hl
      simp
      omega

/-- All spans of a list that end behind d, cut at d and inserted one by one. -/
def gather (d : Int) : List S64 → List S64 → List S64
  | acc, [] => acc
  | acc, s :: t => gather d (if s.f1 > d then ins acc ⟨mx s.f0 d, s.f1⟩ else acc) t

theorem gather_length (d : Int) (t : List S64) : ∀ acc, (gather d acc t).length ≤ acc.length + t.length := by
  induction t with
  | nil => intro acc; simp [gather]
  | cons s t ih =>
    intro acc
    unfold gather
    have h1 := ih (if s.f1 > d then ins acc ⟨mx s.f0 d, s.f1⟩ else acc)
    have h2 := ins_length acc ⟨mx s.f0 d, s.f1⟩
    have h3 : (if s.f1 > d then ins acc ⟨mx s.f0 d, s.f1⟩ else acc).length ≤ acc.length + 1 := by split <;> omega
    rw [List.length_cons]
    omega

theorem gather_spec (d : Int) (t : List S64) : ∀ acc, (∀ s ∈ t, s.f0 < s.f1) → Sep (d - 1) acc →
    Sep (d - 1) (gather d acc t) ∧ ∀ p, Mem (gather d acc t) p ↔ (Mem acc p ∨ (Mem t p ∧ d ≤ p)) := by
  induction t with
  | nil =>
    intro acc _ h
    refine ⟨h, fun p => ?_⟩
    have := mem_nil p
    simp [gather, this]
  | cons s t ih =>
    intro acc hp h
    unfold gather
    have hs := hp s (List.mem_cons_self ..)
    have ht : ∀ s ∈ t, s.f0 < s.f1 := fun u hu => hp u (List.mem_cons_of_mem _ hu)
    by_cases c : s.f1 > d
    · rw [if_pos c]
      have a1 : d - 1 < mx s.f0 d := by unfold mx; split <;> omega
      have a2 : mx s.f0 d < s.f1 := by unfold mx; split <;> omega
      obtain ⟨i1, i2⟩ := ins_spec acc (d - 1) ⟨mx s.f0 d, s.f1⟩ h a1 a2
      obtain ⟨j1, j2⟩ := ih _ ht i1
      refine ⟨j1, fun p => ?_⟩
      rw [j2, i2, mem_cons]
      have e : (mx s.f0 d ≤ p ∧ p < s.f1) ↔ ((s.f0 ≤ p ∧ p < s.f1) ∧ d ≤ p) := by
        unfold mx
        split <;> omega
      show (Mem acc p ∨ (mx s.f0 d ≤ p ∧ p < s.f1)) ∨ _ ↔ _
      rw [e, or_assoc, or_and_right]
    · rw [if_neg c]
      obtain ⟨j1, j2⟩ := ih _ ht h
      refine ⟨j1, fun p => ?_⟩
      rw [j2, mem_cons]
      have e : ¬ ((s.f0 ≤ p ∧ p < s.f1) ∧ d ≤ p) := by omega
      rw [or_and_right]
      simp [e]

/-- The spans that begin behind d. -/
def keep (d : Int) (l : List S64) : List S64 := l.filter fun s => decide (s.f0 > d)

theorem keep_all {d : Int} {l : List S64} (h : Sep d l) : keep d l = l := by
  unfold keep
  rw [List.filter_eq_self]
  intro s hs
  have := (sep_pos h s hs).1
  simp
  omega

theorem keep_cons_eq {d : Int} {s : S64} {l : List S64} (h : Sep (d - 1) (s :: l)) (e : s.f0 = d) : keep d (s :: l) = l := by
  obtain ⟨h1, h2, h3⟩ := h
  have e2 : keep d (s :: l) = keep d l := by
    unfold keep
    rw [List.filter_cons_of_neg]
    simp
    omega
  rw [e2]
  exact keep_all (sep_mono h3 (by omega))

/-- Behind a range that begins at d, the same numbers are held. -/
theorem keep_mem {d k : Int} {l : List S64} (h : Sep (d - 1) l) (hk : d ≤ k) (h1 : ∀ q, d ≤ q → q < k → Mem l q) (h2 : ¬ Mem l k) :
    Sep d (keep d l) ∧ ∀ p, Mem (keep d l) p ↔ (Mem l p ∧ k ≤ p) := by
  cases l with
  | nil =>
    refine ⟨trivial, fun p => ?_⟩
    have := mem_nil p
    have e : keep d [] = [] := rfl
    rw [e]
    simp [this]
  | cons s l =>
    have hs := h
    obtain ⟨g1, g2, g3⟩ := h
    by_cases e : s.f0 = d
    · rw [keep_cons_eq hs e]
      refine ⟨sep_mono g3 (by omega), fun p => ?_⟩
      have hk1 : s.f1 ≤ k := by
        rcases Int.lt_or_le k s.f1 with g | g
        · exact absurd ((mem_cons _ _ _).mpr (.inl ⟨by omega, g⟩)) h2
        · exact g
      have hk2 : k ≤ s.f1 := by
        rcases Int.lt_or_le s.f1 k with g | g
        · rcases (mem_cons _ _ _).mp (h1 s.f1 (by omega) g) with g' | g'
          · omega
          · have := sep_lower g3 g'; omega
        · exact g
      rw [mem_cons]
      constructor
      · intro g
        have := sep_lower g3 g
        exact ⟨.inr g, by omega⟩
      · rintro ⟨g | g, g'⟩
        · omega
        · exact g
    · have hd : Sep d (s :: l) := ⟨by omega, g2, g3⟩
      rw [keep_all hd]
      refine ⟨hd, fun p => ?_⟩
      have hkd : k = d := by
        rcases Int.lt_or_le d k with g | g
        · have := sep_lower hd (h1 d (by omega) g)
          omega
        · omega
      constructor
      · intro g
        have := sep_lower hd g
        exact ⟨g, by omega⟩
      · exact fun g => g.1

/-- Spans, told from a later number. -/
def back (d : Int) (s : S64) : S64 := ⟨s.f0 - d, s.f1 - d⟩

theorem back_sep (d : Int) (l : List S64) : ∀ m, Sep m (l.map (back d)) ↔ Sep (m + d) l := by
  induction l with
  | nil => intro m; exact Iff.rfl
  | cons s l ih =>
    intro m
    have h := ih (s.f1 - d)
    have e : s.f1 - d + d = s.f1 := by omega
    rw [e] at h
    show (m < s.f0 - d ∧ s.f0 - d < s.f1 - d ∧ Sep (s.f1 - d) (l.map (back d))) ↔ (m + d < s.f0 ∧ s.f0 < s.f1 ∧ Sep s.f1 l)
    rw [h]
    constructor
    · rintro ⟨a, b, c⟩; exact ⟨by omega, by omega, c⟩
    · rintro ⟨a, b, c⟩; exact ⟨by omega, by omega, c⟩

theorem back_mem (d : Int) (l : List S64) (p : Int) : Mem (l.map (back d)) p ↔ Mem l (p + d) := by
  induction l with
  | nil => exact Iff.rfl
  | cons s l ih =>
    show Mem (back d s :: l.map (back d)) p ↔ _
    rw [mem_cons, mem_cons, ih]
    have e : ((back d s).f0 ≤ p ∧ p < (back d s).f1) ↔ (s.f0 ≤ p + d ∧ p + d < s.f1) := by
      unfold back
      show s.f0 - d ≤ p ∧ p < s.f1 - d ↔ _
      omega
    rw [e]

/-- A span of distances from a number as a block. -/
def absB (una : Int) (s : S64) : S31 := ⟨(una + s.f0) % 4294967296, (una + s.f1) % 4294967296⟩

theorem back_abs {una d : Int} (s : S64) : absB una s = absB ((una + d) % 4294967296) (back d s) := by
  unfold absB back
  have h1 : (una + s.f0) % 4294967296 = ((una + d) % 4294967296 + (s.f0 - d)) % 4294967296 := by omega
  have h2 : (una + s.f1) % 4294967296 = ((una + d) % 4294967296 + (s.f1 - d)) % 4294967296 := by omega
  rw [h1, h2]

theorem back_abs_map {una d : Int} (l : List S64) : l.map (absB una) = (l.map (back d)).map (absB ((una + d) % 4294967296)) := by
  rw [List.map_map]
  exact List.map_congr_left fun s _ => back_abs s

/-- What one reported block adds to the held ranges. -/
def step (l : List S64) (s : S64) : List S64 := keep 0 (gather 0 [] (l ++ [s]))
def steps : List S64 → List S64 → List S64
  | l, [] => l
  | l, s :: t => steps (step l s) t

theorem step_spec {n : Int} {l : List S64} {s : S64} (h : Sep 0 l) (hu : Upto n l) (h0 : 0 < s.f0) (h1 : s.f0 < s.f1) (h2 : s.f1 ≤ n) :
    Sep 0 (step l s) ∧ Upto n (step l s) ∧ ∀ p, Mem (step l s) p ↔ (Mem l p ∨ (s.f0 ≤ p ∧ p < s.f1)) := by
  have hp : ∀ u ∈ l ++ [s], u.f0 < u.f1 := by
    intro u hu
    rcases List.mem_append.mp hu with hu | hu
    · exact (sep_pos h u hu).2
    · rw [List.mem_singleton] at hu; subst hu; exact h1
  obtain ⟨g1, g2⟩ := gather_spec 0 (l ++ [s]) [] hp trivial
  have g3 : ∀ p, Mem (gather 0 [] (l ++ [s])) p ↔ (Mem l p ∨ (s.f0 ≤ p ∧ p < s.f1)) := by
    intro p
    rw [g2, mem_append, mem_cons]
    have n1 := mem_nil p
    constructor
    · rintro (g | ⟨g | g | g, _⟩)
      · exact absurd g n1
      · exact .inl g
      · exact .inr g
      · exact absurd g n1
    · rintro (g | g)
      · have := sep_lower h g
        exact .inr ⟨.inl g, by omega⟩
      · exact .inr ⟨.inr (.inl g), by omega⟩
  have n0 : ¬ Mem (gather 0 [] (l ++ [s])) 0 := by
    rw [g3]
    rintro (g | g)
    · have := sep_lower h g; omega
    · omega
  obtain ⟨k1, k2⟩ := keep_mem g1 (Int.le_refl 0) (fun q a b => absurd b (by omega)) n0
  have k3 : ∀ p, Mem (step l s) p ↔ (Mem l p ∨ (s.f0 ≤ p ∧ p < s.f1)) := by
    intro p
    show Mem (keep 0 _) p ↔ _
    rw [k2, g3]
    constructor
    · exact fun g => g.1
    · intro g
      refine ⟨g, ?_⟩
      rcases g with g | g
      · have := sep_lower h g; omega
      · omega
  refine ⟨k1, upto_of_mem k1 fun p g => ?_, k3⟩
  rcases (k3 p).mp g with g | g
  · obtain ⟨u, hu1, hu2, hu3⟩ := mem_elim g
    have := hu u hu1
    omega
  · omega

/-- A reported block of the law. -/
def Ok (n : Int) (s : S64) : Prop := 0 < s.f0 ∧ s.f0 < s.f1 ∧ s.f1 ≤ n

theorem steps_spec {n : Int} (t : List S64) : ∀ {l : List S64}, Sep 0 l → Upto n l → (∀ s ∈ t, Ok n s) →
    Sep 0 (steps l t) ∧ Upto n (steps l t) ∧ ∀ p, Mem (steps l t) p ↔ (Mem l p ∨ Mem t p) := by
  induction t with
  | nil =>
    intro l h1 h2 _
    refine ⟨h1, h2, fun p => ?_⟩
    have := mem_nil p
    simp [steps, this]
  | cons s t ih =>
    intro l h1 h2 h3
    obtain ⟨o1, o2, o3⟩ := h3 s (List.mem_cons_self ..)
    obtain ⟨g1, g2, g3⟩ := step_spec h1 h2 o1 o2 o3
    obtain ⟨i1, i2, i3⟩ := ih g1 g2 (fun u hu => h3 u (List.mem_cons_of_mem _ hu))
    refine ⟨i1, i2, fun p => ?_⟩
    show Mem (steps (step l s) t) p ↔ _
    rw [i3, g3, mem_cons, or_assoc]

end Go.Proofs.Ytlcccmaolbjcfaa.Sack
