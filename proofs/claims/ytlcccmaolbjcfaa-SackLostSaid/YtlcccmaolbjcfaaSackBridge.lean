/- The printed functions of the scoreboard answer as the plain spans of SackTheory say. -/
import Derived.Test.YtlcccmaolbjcfaaSackTheory
import Derived.Test.YtlcccmaolbjcfaaPSackMovesx2
import Derived.Test.YtlcccmaolbjcfaaPSackMovesx3
import Derived.Test.YtlcccmaolbjcfaaPSackMovesx4
import Derived.Test.YtlcccmaolbjcfaaHeld
import Derived.Test.YtlcccmaolbjcfaaPSackMovesx6
namespace Go.Proofs.Ytlcccmaolbjcfaa.Sack
open Go.RowKit Go.Proofs.Ytlcccmaolbjcfaa.PSackMoves Go.Proofs.YtlcccmaolbjcfaaW.PrintWords Go.Proofs.Ytlcccmaolbjcfaa.Mine

theorem rd64 {l : List S64} {i : Nat} (h : i < l.length) : rd_T64 l i = l[i] := by
  unfold rd_T64
  simp [h]

theorem rd31_abs {una : Int} {l : List S64} {i : Nat} (h : i < l.length) : rd_T31 (l.map (absB una)) i = absB una l[i] := by
  unfold rd_T31
  simp [h]

theorem drop_cons {α : Type} {l : List α} {i : Nat} (h : i < l.length) : l.drop i = l[i] :: l.drop (i + 1) := List.drop_eq_getElem_cons h

theorem nat_succ (i : Nat) : ((i + 1 : Nat) : Int) = (i : Int) + 1 := by omega

theorem with_eq (l : List S64) : ∀ (d k i : Nat) (out : List S64) (x : S64), l.length - i = d → i ≤ l.length → d < k → out.length + (l.length - i) < 100000 → l.length < 100000 →
    sack_with.l0 k l out l l.length i x.f0 x.f1 = some (out ++ ins (l.drop i) x) := by
  intro d
  induction d with
  | zero =>
    intro k i out x hd hi hk hl hll
    obtain ⟨k, rfl⟩ : ∃ m, k = m + 1 := ⟨k - 1, by omega⟩
    obtain rfl : i = l.length := by omega
    rw [sack_with.l0, if_neg (by omega), if_pos (by omega), List.drop_length]
    rfl
  | succ d ih =>
    intro k i out x hd hi hk hl hll
    obtain ⟨k, rfl⟩ : ∃ m, k = m + 1 := ⟨k - 1, by omega⟩
    have hlt : i < l.length := by omega
    have hpos : (i : Int) < (l.length : Int) := by omega
    have h0 : (0 : Int) ≤ (i : Int) := by omega
    rw [sack_with.l0, if_pos hpos, if_pos h0, if_pos hpos, rd64 hlt, drop_cons hlt, wrap64_in (n := (i : Int) + 1) (by omega)]
    unfold ins
    by_cases c1 : (l[i]).f1 < x.f0
    · rw [if_pos c1, if_pos c1, if_pos (by omega)]
      have h := ih k (i + 1) (out ++ [⟨(l[i]).f0, (l[i]).f1⟩]) x (by omega) (by omega) (by omega) (by simp; omega) hll
      rw [nat_succ] at h
      rw [h]
      simp
    · rw [if_neg c1, if_neg c1]
      by_cases c2 : x.f1 < (l[i]).f0
      · rw [if_pos c2, if_pos c2, if_pos (by omega), Option.bind_some, if_pos (by omega), Option.bind_some]
        have e : ((i : Int)).toNat = i := by omega
        rw [e, if_pos (by simp; omega), ← drop_cons hlt]
        simp
      · rw [if_neg c2, if_neg c2]
        have h := ih k (i + 1) out ⟨mn x.f0 (l[i]).f0, mx x.f1 (l[i]).f1⟩ (by omega) (by omega) (by omega) (by omega) hll
        rw [nat_succ] at h
        exact h

theorem with_f {l : List S64} {k : Nat} (x : S64) (hk : l.length < k) (hl : l.length < 100000) : sack_with.f k l x.f0 x.f1 = some (ins l x) := by
  unfold sack_with.f
  have h := with_eq l l.length k 0 [] x (by omega) (by omega) hk (by simpa using hl) hl
  simpa using h

/-- The distance of a block's end from the number that it is told from. -/
theorem off {una a : Int} (h0 : 0 ≤ a) (h1 : a < 4294967296) : ((una + a) % 4294967296 - una) % 4294967296 = a := by omega

theorem add_f (una a : Int) : seq_Add.f una a = some ((una + a) % 4294967296) := by
  unfold seq_Add.f
  congr 1
  omega

/-- The blocks behind the gathered spans that Add gives back. -/
theorem last_eq (una next ack d : Int) (h : List S31) (A : List S64) (hA : A.length ≤ 100000) : ∀ (e k j : Nat) (out : List S31), A.length - j = e → j ≤ A.length → e < k → out.length + (A.length - j) ≤ 256 →
    sack_Add.l1 k d A A.length j una next h ack next out = some (ack, next, out ++ (keep d (A.drop j)).map (absB una), 0) := by
  intro e
  induction e with
  | zero =>
    intro k j out he hj hk hl
    obtain ⟨k, rfl⟩ : ∃ m, k = m + 1 := ⟨k - 1, by omega⟩
    obtain rfl : j = A.length := by omega
    rw [sack_Add.l1, if_neg (by omega), if_neg (by omega), List.drop_length]
    simp [keep]
  | succ e ih =>
    intro k j out he hj hk hl
    obtain ⟨k, rfl⟩ : ∃ m, k = m + 1 := ⟨k - 1, by omega⟩
    have hlt : j < A.length := by omega
    have hpos : (j : Int) < (A.length : Int) := by omega
    have h0 : (0 : Int) ≤ (j : Int) := by omega
    rw [sack_Add.l1, if_pos hpos, if_pos h0, if_pos hpos, rd64 hlt, drop_cons hlt, wrap64_in (n := (j : Int) + 1) (by omega)]
    by_cases c : (A[j]).f0 > d
    · rw [if_pos c, add_f, add_f, Option.bind_some, Option.bind_some, if_pos (by omega)]
      have g := ih k (j + 1) (out ++ [⟨(una + (A[j]).f0) % 4294967296, (una + (A[j]).f1) % 4294967296⟩]) (by omega) (by omega) (by omega) (by simp; omega)
      rw [nat_succ] at g
      rw [g]
      have e1 : keep d (A[j] :: A.drop (j + 1)) = A[j] :: keep d (A.drop (j + 1)) := by
        unfold keep
        rw [List.filter_cons_of_pos]
        simpa using c
      rw [e1]
      simp [absB]
    · rw [if_neg c]
      have g := ih k (j + 1) out (by omega) (by omega) (by omega) (by omega)
      rw [nat_succ] at g
      rw [g]
      have e1 : keep d (A[j] :: A.drop (j + 1)) = keep d (A.drop (j + 1)) := by
        unfold keep
        rw [List.filter_cons_of_neg]
        simpa using c
      rw [e1]

theorem size_f (una n : Int) (h : List S31) (h0 : 0 ≤ n) (h1 : n ≤ 300) : sack_size.f una ((una + n) % 4294967296) h = some n := by
  unfold sack_size.f
  rw [off (by omega) (by omega)]

/-- The loop of Add over the held ranges and the reported blocks. -/
theorem add_loop {una n d : Int} (L B : List S64) (h0 : 0 ≤ n) (h1 : n ≤ 300) (hok : ∀ s ∈ L ++ B, Ok n s) (hlen : L.length + B.length ≤ 200) :
    ∀ (e k i : Nat) (acc : List S64), L.length + B.length - i = e → i ≤ L.length + B.length → 2 * e + 500 ≤ k → acc.length ≤ i →
    sack_Add.l0 k ((una + d) % 4294967296) (B.map (absB una)) d acc ((L.length + B.length : Nat) : Int) i una ((una + n) % 4294967296) (L.map (absB una)) =
      some ((una + d) % 4294967296, (una + n) % 4294967296, (keep d (gather d acc ((L ++ B).drop i))).map (absB una), 0) := by
  intro e
  induction e with
  | zero =>
    intro k i acc he hi hk ha
    obtain ⟨k, rfl⟩ : ∃ m, k = m + 1 := ⟨k - 1, by omega⟩
    obtain rfl : i = L.length + B.length := by omega
    rw [sack_Add.l0, if_neg (by omega)]
    have e1 : (L ++ B).drop (L.length + B.length) = [] := by
      rw [← List.length_append, List.drop_length]
    rw [e1]
    have g := last_eq una ((una + n) % 4294967296) ((una + d) % 4294967296) d (L.map (absB una)) acc (by omega) acc.length k 0 [] (by omega) (by omega) (by omega) (by simp; omega)
    simpa [gather] using g
  | succ e ih =>
    intro k i acc he hi hk ha
    obtain ⟨k, rfl⟩ : ∃ m, k = m + 2 := ⟨k - 2, by omega⟩
    have hlt : i < (L ++ B).length := by rw [List.length_append]; omega
    have hpos : (i : Int) < ((L.length + B.length : Nat) : Int) := by omega
    have hk0 := hok _ (List.getElem_mem hlt)
    obtain ⟨o1, o2, o3⟩ := hk0
    have key : sack_Add.j1 (k + 1) ((una + d) % 4294967296) (B.map (absB una)) d acc ((L.length + B.length : Nat) : Int) i una ((una + n) % 4294967296) (L.map (absB una)) (absB una (L ++ B)[i]).f0 (absB una (L ++ B)[i]).f1 =
        some ((una + d) % 4294967296, (una + n) % 4294967296, (keep d (gather d acc ((L ++ B).drop i))).map (absB una), 0) := by
      rw [sack_Add.j1]
      have a1 : ((absB una (L ++ B)[i]).f0 - una) % 4294967296 = ((L ++ B)[i]).f0 := off (by omega) (by omega)
      have a2 : ((absB una (L ++ B)[i]).f1 - una) % 4294967296 = ((L ++ B)[i]).f1 := off (by omega) (by omega)
      rw [a1, a2, if_pos o2, size_f una n _ h0 h1, Option.bind_some, if_pos o3, wrap64_in (n := (i : Int) + 1) (by omega), drop_cons hlt]
      unfold gather
      by_cases c : ((L ++ B)[i]).f1 > d
      · rw [if_pos c, if_pos c]
        have w := with_f (k := k) (l := acc) ⟨mx ((L ++ B)[i]).f0 d, ((L ++ B)[i]).f1⟩ (by omega) (by omega)
        have w' : sack_with.f k acc (mx ((L ++ B)[i]).f0 d) ((L ++ B)[i]).f1 = _ := w
        rw [w', Option.bind_some]
        have hl := ins_length acc ⟨mx ((L ++ B)[i]).f0 d, ((L ++ B)[i]).f1⟩
        have g := ih k (i + 1) (ins acc ⟨mx ((L ++ B)[i]).f0 d, ((L ++ B)[i]).f1⟩) (by omega) (by omega) (by omega) (by omega)
        rw [nat_succ] at g
        exact g
      · rw [if_neg c, if_neg c]
        have g := ih k (i + 1) acc (by omega) (by omega) (by omega) (by omega)
        rw [nat_succ] at g
        exact g
    rw [sack_Add.l0, if_pos hpos]
    by_cases c : i < L.length
    · have e1 : rd_T31 (L.map (absB una)) (i : Int) = absB una (L ++ B)[i] := by rw [rd31_abs c, List.getElem_append_left c]
      rw [if_pos (by simp; omega), if_pos (by omega), e1]
      exact key
    · have e2 : wrap64 ((i : Int) - ((L.map (absB una)).length : Int)) = ((i - L.length : Nat) : Int) := by
        rw [List.length_map, wrap64_in (by omega)]
        omega
      have c2 : i - L.length < B.length := by omega
      have e1 : rd_T31 (B.map (absB una)) ((i - L.length : Nat) : Int) = absB una (L ++ B)[i] := by
        rw [rd31_abs c2, List.getElem_append_right (by omega)]
      rw [if_neg (by simp; omega), e2, if_pos (by omega), if_pos (by simp; omega), e1]
      exact key

theorem less_f {una n : Int} (h0 : 0 ≤ n) (h1 : n ≤ 300) : seq_Less.f ((una + n) % 4294967296) una = some false := by
  unfold seq_Less.f seq_Diff.f
  rw [Option.bind_some, off (by omega) (by omega)]
  have e : wrap64 (wrap32 n) = n := by unfold wrap64 wrap32; omega
  rw [e]
  simp
  omega

theorem check_loop {una n : Int} (L : List S64) (h0 : 0 ≤ n) (h1 : n ≤ 300) (hu : Upto n L) (hlen : L.length ≤ 200) :
    ∀ (e k i : Nat) (last : Int), L.length - i = e → i ≤ L.length → e < k → 0 ≤ last → Sep last (L.drop i) →
    sack_Check.l0 k last (L.map (absB una)) L.length i una ((una + n) % 4294967296) (L.map (absB una)) = some 0 := by
  intro e
  induction e with
  | zero =>
    intro k i last he hi hk h2 hs
    obtain ⟨k, rfl⟩ : ∃ m, k = m + 1 := ⟨k - 1, by omega⟩
    rw [sack_Check.l0, if_neg (by omega)]
  | succ e ih =>
    intro k i last he hi hk h2 hs
    obtain ⟨k, rfl⟩ : ∃ m, k = m + 1 := ⟨k - 1, by omega⟩
    have hlt : i < L.length := by omega
    have hpos : (i : Int) < (L.length : Int) := by omega
    rw [drop_cons hlt] at hs
    obtain ⟨s1, s2, s3⟩ := hs
    have hn := hu _ (List.getElem_mem hlt)
    have a1 : ((absB una L[i]).f0 - una) % 4294967296 = (L[i]).f0 := off (by omega) (by omega)
    have a2 : ((absB una L[i]).f1 - una) % 4294967296 = (L[i]).f1 := off (by omega) (by omega)
    rw [sack_Check.l0, if_pos hpos, if_pos (by omega), if_pos (by simpa using hpos), rd31_abs hlt, a1, a2, if_neg (by omega), if_neg (by omega), size_f una n _ h0 h1, Option.bind_some, if_neg (by omega), wrap64_in (n := (i : Int) + 1) (by omega)]
    have g := ih k (i + 1) (L[i]).f1 (by omega) (by omega) (by omega) (by omega) s3
    rw [nat_succ] at g
    exact g

theorem len_le {n : Int} {L : List S64} (h1 : n ≤ 300) (hs : Sep 0 L) (hu : Upto n L) : L.length ≤ 150 := by
  by_cases hl : L = []
  · subst hl; simp
  · have := sep_length L 0 hs hu hl
    omega

theorem check_f {una n : Int} {L : List S64} {k : Nat} (h0 : 0 ≤ n) (h1 : n ≤ 300) (hs : Sep 0 L) (hu : Upto n L) (hk : 300 ≤ k) :
    sack_Check.f k una ((una + n) % 4294967296) (L.map (absB una)) = some 0 := by
  have hl := len_le h1 hs hu
  unfold sack_Check.f
  rw [if_neg (by simp; omega), less_f h0 h1, Option.bind_some, if_neg (by simp)]
  have g := check_loop (una := una) L h0 h1 hu (by omega) L.length k 0 0 (by omega) (by omega) (by omega) (by omega) (by simpa using hs)
  simpa using g

theorem add_all {una n d : Int} {L B : List S64} {k : Nat} (h0 : 0 ≤ n) (h1 : n ≤ 300) (hs : Sep 0 L) (hu : Upto n L) (hB : ∀ s ∈ B, Ok n s) (hB3 : B.length ≤ 3) (hd : 0 ≤ d) (hdn : d ≤ n) (hk : 2000 ≤ k) :
    sack_Add.f k una ((una + n) % 4294967296) (L.map (absB una)) ((una + d) % 4294967296) (B.map (absB una)) =
      some ((una + d) % 4294967296, (una + n) % 4294967296, (keep d (gather d [] (L ++ B))).map (absB una), 0) := by
  have hl := len_le h1 hs hu
  unfold sack_Add.f
  rw [check_f h0 h1 hs hu (by omega), Option.bind_some, if_pos rfl, if_neg (by simp; omega), size_f una n _ h0 h1, Option.bind_some, off (by omega) (by omega), if_neg (by omega)]
  have hok : ∀ s ∈ L ++ B, Ok n s := by
    intro s hs'
    rcases List.mem_append.mp hs' with hs' | hs'
    · have g := sep_pos hs s hs'
      exact ⟨by omega, g.2, hu s hs'⟩
    · exact hB s hs'
  have g := add_loop (una := una) (d := d) L B h0 h1 hok (by omega) (L.length + B.length) k 0 [] (by omega) (by omega) (by omega) (by simp)
  have e : wrap64 (((L.map (absB una)).length : Int) + ((B.map (absB una)).length : Int)) = ((L.length + B.length : Nat) : Int) := by
    rw [List.length_map, List.length_map, wrap64_in (by omega)]
    omega
  rw [e]
  simpa using g

theorem held_loop {una n : Int} (B : List S64) (h0 : 0 ≤ n) (h1 : n ≤ 300) (hu0 : 0 ≤ una) (hu1 : una < 4294967296) (hB : ∀ s ∈ B, Ok n s) (hB2 : B.length ≤ 1000) :
    ∀ (e k i : Nat) (L : List S64), B.length - i = e → i ≤ B.length → e + 2001 ≤ k → Sep 0 L → Upto n L →
    patchbaykeep3_held.l0 k (B.map (absB una)) i una ((una + n) % 4294967296) (L.map (absB una)) =
      some (una, (una + n) % 4294967296, (steps L (B.drop i)).map (absB una), 0) := by
  intro e
  induction e with
  | zero =>
    intro k i L he hi hk hs hu
    obtain ⟨k, rfl⟩ : ∃ m, k = m + 1 := ⟨k - 1, by omega⟩
    obtain rfl : i = B.length := by omega
    rw [patchbaykeep3_held.l0, if_neg (by simp), List.drop_length]
    rfl
  | succ e ih =>
    intro k i L he hi hk hs hu
    obtain ⟨k, rfl⟩ : ∃ m, k = m + 1 := ⟨k - 1, by omega⟩
    have hlt : i < B.length := by omega
    have hpos : (i : Int) < ((B.map (absB una)).length : Int) := by simp; omega
    obtain ⟨o1, o2, o3⟩ := hB _ (List.getElem_mem hlt)
    obtain ⟨g1, g2, _⟩ := step_spec hs hu o1 o2 o3
    rw [patchbaykeep3_held.l0, if_pos hpos, if_pos (by omega), wrap64_in (n := (i : Int) + 1) (by omega), if_pos (by omega), if_pos (by omega)]
    have e1 : (((B.map (absB una)).take ((i : Int) + 1).toNat).drop (i : Int).toNat) = [B[i]].map (absB una) := by
      have e2 : ((i : Int) + 1).toNat = i + 1 := by omega
      have e3 : ((i : Int)).toNat = i := by omega
      rw [e2, e3, List.take_succ_eq_append_getElem (by simpa using hlt), List.drop_append_of_le_length (by simp; omega), List.drop_eq_nil_of_le (by simp; omega)]
      simp
    have a := add_all (una := una) (d := 0) (B := [B[i]]) (k := k) h0 h1 hs hu (by intro s hs'; rw [List.mem_singleton] at hs'; subst hs'; exact ⟨o1, o2, o3⟩) (by simp) (by omega) h0 (by omega)
    have e4 : (una + 0) % 4294967296 = una := by omega
    rw [e4] at a
    rw [e1, a, Option.bind_some]
    dsimp only
    rw [if_pos rfl]
    have g := ih k (i + 1) (step L B[i]) (by omega) (by omega) (by omega) g1 g2
    rw [nat_succ] at g
    rw [drop_cons hlt]
    exact g

theorem held_f {una n : Int} {B : List S64} {k : Nat} (h0 : 0 ≤ n) (h1 : n ≤ 300) (hu0 : 0 ≤ una) (hu1 : una < 4294967296) (hB : ∀ s ∈ B, Ok n s) (hB2 : B.length ≤ 1000) (hk : 4000 ≤ k) :
    ∃ L : List S64, patchbaykeep3_held.f k una ((una + n) % 4294967296) [] (B.map (absB una)) = some (una, (una + n) % 4294967296, L.map (absB una), 0) ∧ Sep 0 L ∧ Upto n L ∧ ∀ p, Mem L p ↔ Mem B p := by
  have hup : Upto n [] := by intro s hs; cases hs
  obtain ⟨g1, g2, g3⟩ := steps_spec B (l := []) trivial hup hB
  refine ⟨steps [] B, ?_, g1, g2, fun p => ?_⟩
  · have g := held_loop B h0 h1 hu0 hu1 hB hB2 B.length k 0 [] (by omega) (by omega) (by omega) trivial hup
    unfold patchbaykeep3_held.f
    simpa using g
  · rw [g3]
    have := mem_nil p
    simp [this]

theorem has_loop {una p : Int} (L : List S64) (hp0 : 0 ≤ p) (hp1 : p ≤ 1000) (hL : ∀ s ∈ L, 0 ≤ s.f0 ∧ s.f0 < s.f1 ∧ s.f1 ≤ 1000) (hlen : L.length ≤ 1000) :
    ∀ (e k i : Nat), L.length - i = e → i ≤ L.length → e < k →
    patchbaykeep3_has.l0 k ((una + p) % 4294967296) (L.map (absB una)) L.length i = some (memB (L.drop i) p) := by
  intro e
  induction e with
  | zero =>
    intro k i he hi hk
    obtain ⟨k, rfl⟩ : ∃ m, k = m + 1 := ⟨k - 1, by omega⟩
    obtain rfl : i = L.length := by omega
    rw [patchbaykeep3_has.l0, if_neg (by omega), List.drop_length]
    rfl
  | succ e ih =>
    intro k i he hi hk
    obtain ⟨k, rfl⟩ : ∃ m, k = m + 1 := ⟨k - 1, by omega⟩
    have hlt : i < L.length := by omega
    have hpos : (i : Int) < (L.length : Int) := by omega
    obtain ⟨o1, o2, o3⟩ := hL _ (List.getElem_mem hlt)
    rw [patchbaykeep3_has.l0, if_pos hpos, if_pos (by omega), if_pos (by simpa using hpos), rd31_abs hlt, drop_cons hlt]
    unfold seq_Diff.f seq_In.f
    rw [Option.bind_some, Option.bind_some, wrap64_in (n := (i : Int) + 1) (by omega)]
    have e1 : ((absB una L[i]).f1 - (absB una L[i]).f0) % 4294967296 = (L[i]).f1 - (L[i]).f0 := by unfold absB; dsimp only; omega
    have e2 : wrap64 (wrap32 ((L[i]).f1 - (L[i]).f0)) = (L[i]).f1 - (L[i]).f0 := by unfold wrap64 wrap32; omega
    have e3 : ((una + p) % 4294967296 - (absB una L[i]).f0) % 4294967296 = (p - (L[i]).f0) % 4294967296 := by unfold absB; dsimp only; omega
    have e4 : decide ((p - (L[i]).f0) % 4294967296 < (L[i]).f1 - (L[i]).f0) = (decide ((L[i]).f0 ≤ p) && decide (p < (L[i]).f1)) := by
      rw [← Bool.decide_and]
      exact decide_eq_decide.mpr (by omega)
    rw [e1, e2, e3, e4]
    have em : memB (L[i] :: L.drop (i + 1)) p = ((decide ((L[i]).f0 ≤ p) && decide (p < (L[i]).f1)) || memB (L.drop (i + 1)) p) := rfl
    rw [em]
    cases c : (decide ((L[i]).f0 ≤ p) && decide (p < (L[i]).f1)) with
    | true => simp
    | false =>
      have g := ih k (i + 1) (by omega) (by omega) (by omega)
      rw [nat_succ] at g
      simpa using g

theorem has_f {una p : Int} {L : List S64} {k : Nat} (hp0 : 0 ≤ p) (hp1 : p ≤ 1000) (hL : ∀ s ∈ L, 0 ≤ s.f0 ∧ s.f0 < s.f1 ∧ s.f1 ≤ 1000) (hlen : L.length ≤ 1000) (hk : 1001 ≤ k) :
    patchbaykeep3_has.f k (L.map (absB una)) ((una + p) % 4294967296) = some (memB L p) := by
  unfold patchbaykeep3_has.f
  have g := has_loop (una := una) L hp0 hp1 hL hlen L.length k 0 (by omega) (by omega) (by omega)
  simpa using g

theorem rest_f {n m : Int} (h0 : 0 < m) (h1 : m ≤ 9223372036854775807) : patchbaykeep3_rest.f n m = some (rst n m) := rest_eq h0 h1

theorem blocks_loop {una : Int} (l2 l3 : List Int) : ∀ (e k i : Nat) (B : List S64), 12 - i = e → i ≤ 12 → 2 * e + 2 ≤ k → (∀ s ∈ B, Ok 300 s) → B.length ≤ i →
    ∃ B' : List S64, patchbaykeep3_blocks.l0 k una 300 l2 l3 (B.map (absB una)) i = some (B'.map (absB una)) ∧ (∀ s ∈ B', Ok 300 s) ∧ B'.length ≤ 12 := by
  intro e
  induction e with
  | zero =>
    intro k i B he hi hk hB hl
    obtain ⟨k, rfl⟩ : ∃ m, k = m + 2 := ⟨k - 2, by omega⟩
    have ed : decide ((i : Int) < 12) = false := by simp; omega
    refine ⟨B, ?_, hB, by omega⟩
    rw [patchbaykeep3_blocks.l0, ed, patchbaykeep3_blocks.j1]
    simp
  | succ e ih =>
    intro k i B he hi hk hB hl
    obtain ⟨k, rfl⟩ : ∃ m, k = m + 2 := ⟨k - 2, by omega⟩
    have ed : decide ((i : Int) < 12) = true := by simp; omega
    rw [patchbaykeep3_blocks.l0, ed, patchbaykeep3_blocks.j1, patchbaykeep3_blocks.j1]
    by_cases c1 : (i : Int) < (l2.length : Int)
    · by_cases c2 : (i : Int) < (l3.length : Int)
      · have r1 := @rst_bd (rd l2 i) 300 (by omega)
        have r2 := @rst_bd (rd l3 i) 50 (by omega)
        rw [if_pos c1, if_pos c2, if_pos rfl, if_pos (by omega), if_pos c1, rest_f (by omega) (by omega), Option.bind_some, if_pos c2, rest_f (by omega) (by omega), Option.bind_some]
        generalize rst (rd l2 i) 300 = a at *
        generalize rst (rd l3 i) 50 = b at *
        rw [wrap64_in (n := 1 + a) (by omega), wrap64_in (n := 1 + a + 1) (by omega), wrap64_in (n := 1 + a + 1 + b) (by omega), wrap64_in (n := (i : Int) + 1) (by omega)]
        have hm : mn (1 + a + 1 + b) 300 ≤ 300 := by unfold mn; split <;> omega
        by_cases c3 : 1 + a < mn (1 + a + 1 + b) 300
        · rw [if_pos c3, add_f, Option.bind_some, add_f, Option.bind_some, if_pos (by simp; omega)]
          obtain ⟨B', g1, g2, g3⟩ := ih k (i + 1) (B ++ [⟨1 + a, mn (1 + a + 1 + b) 300⟩]) (by omega) (by omega) (by omega)
            (by
              intro s hs
              rcases List.mem_append.mp hs with hs | hs
              · exact hB s hs
              · rw [List.mem_singleton] at hs; subst hs; exact ⟨by show 0 < 1 + a; omega, c3, hm⟩)
            (by simp; omega)
          refine ⟨B', ?_, g2, g3⟩
          rw [nat_succ] at g1
          rw [← g1]
          simp [absB]
        · rw [if_neg c3]
          obtain ⟨B', g1, g2, g3⟩ := ih k (i + 1) B (by omega) (by omega) (by omega) hB (by omega)
          refine ⟨B', ?_, g2, g3⟩
          rw [nat_succ] at g1
          exact g1
      · refine ⟨B, ?_, hB, by omega⟩
        rw [if_pos c1, if_neg c2]
        simp
    · refine ⟨B, ?_, hB, by omega⟩
      rw [if_neg c1]
      simp

theorem blocks_f (una : Int) (l2 l3 : List Int) {k : Nat} (hk : 100 ≤ k) :
    ∃ B : List S64, patchbaykeep3_blocks.f k una 300 l2 l3 = some (B.map (absB una)) ∧ (∀ s ∈ B, Ok 300 s) ∧ B.length ≤ 12 := by
  obtain ⟨B, g1, g2, g3⟩ := blocks_loop (una := una) l2 l3 12 k 0 [] (by omega) (by omega) (by omega) (by intro s hs; cases hs) (by simp)
  refine ⟨B, ?_, g2, g3⟩
  unfold patchbaykeep3_blocks.f
  simpa using g1

theorem fact_f : patchbaykeep3_sackFact.f 5000 = some true := by decide +kernel

end Go.Proofs.Ytlcccmaolbjcfaa.Sack
