/- The Internet checksum as plain arithmetic over a list of bytes, and that seg.Sum answers it. -/
import Derived.Test.YtlcccmaolbjcfaaMine
import Derived.Test.YtlcccmaolbjcfaaPSegElsewherex1
import Derived.Laws.BitsLemmas
namespace Go.Proofs.Ytlcccmaolbjcfaa.Seg
open Go.RowKit Go.Proofs.Ytlcccmaolbjcfaa.PSegElsewhere Go.Proofs.YtlcccmaolbjcfaaW.PrintWords Go.Proofs.Ytlcccmaolbjcfaa.Mine
set_option linter.unusedVariables false
set_option linter.unusedSimpArgs false

/-! Bytes -/
theorem bl_append (a b : ByteArray) : bytesOf (a ++ b) = bytesOf a ++ bytesOf b := by
  unfold bytesOf
  rw [← List.map_append]
  simp

theorem bl_extract (s : ByteArray) (i j : Nat) : bytesOf (s.extract i j) = ((bytesOf s).take j).drop i := by
  unfold bytesOf
  rw [← List.map_take, ← List.map_drop]
  congr 1
  rw [ByteArray.data_extract, Array.toList_extract, List.extract_eq_drop_take', List.drop_take]

theorem bl_range (s : ByteArray) : ∀ x ∈ bytesOf s, 0 ≤ x ∧ x < 256 := by
  intro x hx
  unfold bytesOf at hx
  obtain ⟨b, _, rfl⟩ := List.mem_map.mp hx
  have := b.toNat_lt
  omega

theorem bl_str (l : List Int) (h : ∀ x ∈ l, 0 ≤ x ∧ x < 256) : bytesOf (strOfNums l) = l := by
  unfold bytesOf
  rw [strOfNums_data, List.map_map]
  have : l.map ((fun b : UInt8 => (b.toNat : Int)) ∘ fun n => UInt8.ofNat n.toNat) = l.map id := by
    refine List.map_congr_left fun x hx => ?_
    obtain ⟨h0, h1⟩ := h x hx
    show ((UInt8.ofNat x.toNat).toNat : Int) = x
    rw [UInt8.toNat_ofNat']
    omega
  rw [this, List.map_id]

theorem str_bl (s : ByteArray) : strOfNums (bytesOf s) = s := by
  unfold strOfNums bytesOf
  rw [List.map_map]
  have : s.data.toList.map ((fun n : Int => UInt8.ofNat n.toNat) ∘ fun b : UInt8 => (b.toNat : Int)) = s.data.toList.map id := by
    refine List.map_congr_left fun b _ => ?_
    show UInt8.ofNat (b.toNat : Int).toNat = b
    rw [Int.toNat_natCast]
    exact UInt8.ofNat_toNat
  rw [this, List.map_id]

theorem bl_inj {s t : ByteArray} (h : bytesOf s = bytesOf t) : s = t := by rw [← str_bl s, ← str_bl t, h]

theorem bt_bl (s : ByteArray) (i : Nat) (h : i < (bytesOf s).length) : bt s i = (bytesOf s)[i] := by
  rw [← rd_bytesOf]
  unfold rd
  simp [h]

/-! The sum of the 16-bit words -/
/-- The sum of the words of a list of bytes; is the next byte an upper one? -/
def wsum : Bool → List Int → Int
  | _, [] => 0
  | true, x :: l => 256 * x + wsum false l
  | false, x :: l => x + wsum true l

theorem wsum_bd (l : List Int) : ∀ e, (∀ x ∈ l, 0 ≤ x ∧ x < 256) → 0 ≤ wsum e l ∧ wsum e l ≤ 65280 * l.length := by
  induction l with
  | nil => intro e _; cases e <;> simp [wsum]
  | cons x l ih =>
    intro e h
    have hx := h x (List.mem_cons_self ..)
    have hl : ∀ y ∈ l, 0 ≤ y ∧ y < 256 := fun y hy => h y (List.mem_cons_of_mem _ hy)
    cases e with
    | true => have := ih false hl; simp only [wsum, List.length_cons]; omega
    | false => have := ih true hl; simp only [wsum, List.length_cons]; omega

theorem wsum_append (a b : List Int) : ∀ e, wsum e (a ++ b) = wsum e a + wsum (if a.length % 2 = 0 then e else !e) b := by
  induction a with
  | nil => intro e; cases e <;> simp [wsum]
  | cons x a ih =>
    intro e
    by_cases h : a.length % 2 = 0
    · have h2 : ¬ (x :: a).length % 2 = 0 := by simp; omega
      rw [if_neg h2]
      cases e with
      | true => simp only [List.cons_append, wsum, ih, if_pos h, Bool.not_true]; omega
      | false => simp only [List.cons_append, wsum, ih, if_pos h, Bool.not_false]; omega
    · have h2 : (x :: a).length % 2 = 0 := by simp; omega
      rw [if_pos h2]
      cases e with
      | true => simp only [List.cons_append, wsum, ih, if_neg h, Bool.not_false]; omega
      | false => simp only [List.cons_append, wsum, ih, if_neg h, Bool.not_true]; omega

theorem wsum_even {a : List Int} (b : List Int) (h : a.length % 2 = 0) : wsum true (a ++ b) = wsum true a + wsum true b := by
  rw [wsum_append, if_pos h]

/-- The carries added in. -/
def fold (n : Int) : Int := if n = 0 then 0 else (n - 1) % 65535 + 1

theorem fold_bd (n : Int) : 0 ≤ fold n ∧ fold n ≤ 65535 := by unfold fold; split <;> omega

/-- The checksum of a list of bytes. -/
def csum (l : List Int) : Int := 65535 - fold (wsum true l)

theorem csum_bd (l : List Int) : 0 ≤ csum l ∧ csum l ≤ 65535 := by have := fold_bd (wsum true l); unfold csum; omega

theorem and16 {n : Int} (h0 : 0 ≤ n) (h1 : n < 9223372036854775808) : Go.bits .and .i64 n 65535 = n % 65536 :=
  bits_mask .i64 63 (by decide) (fun m a b => by rw [IntKind.wrap_i64]; omega) 16 (by decide) n h0 (by omega)

theorem l1_eq {k : Nat} {n : Int} (h0 : 0 ≤ n) (h1 : n < 9223372036854775808) (hk : 6 ≤ k) : seg_Sum.l1 k n = some (65535 - fold n) := by
  have small : ∀ (k : Nat) (n : Int), 0 ≤ n → n ≤ 65535 → seg_Sum.l1 (k + 1) n = some (65535 - fold n) := by
    intro k n h0 h1
    rw [seg_Sum.l1, if_neg (by omega), wrap64_in (by omega)]
    congr 1
    unfold fold
    split <;> omega
  have one : ∀ (k : Nat) (n : Int), 65535 < n → n < 9223372036854775808 → seg_Sum.l1 k (n % 65536 + n / 65536) = some (65535 - fold (n % 65536 + n / 65536)) → seg_Sum.l1 (k + 1) n = some (65535 - fold n) := by
    intro k n h0 h1 h
    have e : fold (n % 65536 + n / 65536) = fold n := by unfold fold; rw [if_neg (by omega), if_neg (by omega)]; omega
    rw [seg_Sum.l1, if_pos h0, and16 (by omega) h1, wrap64_in (by omega), h, e]
  have next : ∀ (k : Nat) (n : Int), 0 ≤ n → n < 9223372036854775808 → (n > 65535 → seg_Sum.l1 k (n % 65536 + n / 65536) = some (65535 - fold (n % 65536 + n / 65536))) → seg_Sum.l1 (k + 1) n = some (65535 - fold n) := by
    intro k n h0 h1 h
    by_cases c : n > 65535
    · exact one k n c h1 (h c)
    · exact small k n h0 (by omega)
  have s1 : ∀ (k : Nat) (n : Int), 0 ≤ n → n ≤ 65536 → seg_Sum.l1 (k + 2) n = some (65535 - fold n) := fun k n a b => next (k + 1) n a (by omega) fun c => small k _ (by omega) (by omega)
  have s2 : ∀ (k : Nat) (n : Int), 0 ≤ n → n ≤ 131071 → seg_Sum.l1 (k + 3) n = some (65535 - fold n) := fun k n a b => next (k + 2) n a (by omega) fun c => s1 k _ (by omega) (by omega)
  have s3 : ∀ (k : Nat) (n : Int), 0 ≤ n → n < 4294967296 → seg_Sum.l1 (k + 4) n = some (65535 - fold n) := fun k n a b => next (k + 3) n a (by omega) fun c => s2 k _ (by omega) (by omega)
  have s4 : ∀ (k : Nat) (n : Int), 0 ≤ n → n < 281470681743360 → seg_Sum.l1 (k + 5) n = some (65535 - fold n) := fun k n a b => next (k + 4) n a (by omega) fun c => s3 k _ (by omega) (by omega)
  have s5 : ∀ (k : Nat) (n : Int), 0 ≤ n → n < 9223372036854775808 → seg_Sum.l1 (k + 6) n = some (65535 - fold n) := fun k n a b => next (k + 5) n a (by omega) fun c => s4 k _ (by omega) (by omega)
  obtain ⟨k, rfl⟩ : ∃ m, k = m + 6 := ⟨k - 6, by omega⟩
  exact s5 k n h0 h1

theorem sum_loop (s : ByteArray) (hs : s.size ≤ 140737488351234) : ∀ (d k i : Nat) (n : Int), s.size - i = d → i ≤ s.size → d + 7 ≤ k → 0 ≤ n → n ≤ 65280 * i →
    seg_Sum.l0 k s n i = some (65535 - fold (n + wsum (decide (i % 2 = 0)) ((bytesOf s).drop i))) := by
  have hlen := bytesOf_length s
  intro d
  induction d with
  | zero =>
    intro k i n hd hi hk h0 h1
    obtain ⟨k, rfl⟩ : ∃ m, k = m + 1 := ⟨k - 1, by omega⟩
    obtain rfl : i = s.size := by omega
    have e : (bytesOf s).drop s.size = [] := by rw [← hlen, List.drop_length]
    rw [seg_Sum.l0, if_neg (by omega), l1_eq h0 (by omega) (by omega), e]
    congr 2
    cases (decide (s.size % 2 = 0)) <;> simp [wsum]
  | succ d ih =>
    intro k i n hd hi hk h0 h1
    obtain ⟨k, rfl⟩ : ∃ m, k = m + 1 := ⟨k - 1, by omega⟩
    have hlt : i < (bytesOf s).length := by omega
    have hb := bl_range s _ (List.getElem_mem hlt)
    rw [seg_Sum.l0, if_pos (by omega), bt_bl s i hlt, Int.tmod_eq_emod_of_nonneg (by omega), wrap64_in (n := (i : Int) + 1) (by omega), wrap64_in (n := (bytesOf s)[i]) (by omega),
      List.drop_eq_getElem_cons hlt]
    have en : ((i + 1 : Nat) : Int) = (i : Int) + 1 := by omega
    by_cases c : i % 2 = 0
    · have c1 : decide (i % 2 = 0) = true := by simpa using c
      have c2 : decide ((i + 1) % 2 = 0) = false := by simp; omega
      rw [if_pos (by omega), if_pos (by omega), wrap64_in (n := (bytesOf s)[i] * 256) (by omega), wrap64_in (n := n + (bytesOf s)[i] * 256) (by omega)]
      have g := ih k (i + 1) (n + (bytesOf s)[i] * 256) (by omega) (by omega) (by omega) (by omega) (by omega)
      rw [en, c2] at g
      rw [g, c1]
      congr 3
      simp only [wsum]
      omega
    · have c1 : decide (i % 2 = 0) = false := by simpa using c
      have c2 : decide ((i + 1) % 2 = 0) = true := by simp; omega
      rw [if_neg (by omega), if_pos (by omega), wrap64_in (n := n + (bytesOf s)[i]) (by omega)]
      have g := ih k (i + 1) (n + (bytesOf s)[i]) (by omega) (by omega) (by omega) (by omega) (by omega)
      rw [en, c2] at g
      rw [g, c1]
      congr 3
      simp only [wsum]
      omega

theorem sum_f {s : ByteArray} {k : Nat} (hs : s.size ≤ 140737488351234) (hk : s.size + 7 ≤ k) : seg_Sum.f k s = some (csum (bytesOf s)) := by
  unfold seg_Sum.f csum
  have g := sum_loop s hs s.size k 0 0 (by omega) (by omega) hk (by omega) (by omega)
  have e : ((0 : Nat) : Int) = 0 := rfl
  rw [e] at g
  rw [g]
  simp

end Go.Proofs.Ytlcccmaolbjcfaa.Seg
