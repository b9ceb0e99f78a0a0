/- Every change of a single bit is detected: the plain law behind SegSpoilt. -/
import Derived.Test.YtlcccmaolbjcfaaWalkSpoilt
import Derived.Test.YtlcccmaolbjcfaaPureElse
namespace Go.Proofs.Ytlcccmaolbjcfaa.Pure
open Go.RowKit Go.Proofs.Ytlcccmaolbjcfaa.PSegElsewhere Go.Proofs.YtlcccmaolbjcfaaW.PrintWords Go.Proofs.YtlcccmaolbjcfaaW.PrintLast
open Go.Proofs.Ytlcccmaolbjcfaa.Mine Go.Proofs.Ytlcccmaolbjcfaa.Seg
set_option linter.unusedVariables false
set_option linter.unusedSimpArgs false

theorem flip8 {x : Int} {j : Nat} (hx : 0 ≤ x ∧ x < 256) (hj : j < 8) :
    0 ≤ Go.bits .xor .u8 x (2 ^ j % 256) ∧ Go.bits .xor .u8 x (2 ^ j % 256) < 256 ∧ (Go.bits .xor .u8 x (2 ^ j % 256) = x + 2 ^ j ∨ Go.bits .xor .u8 x (2 ^ j % 256) + 2 ^ j = x) := by
  obtain ⟨n, rfl⟩ := Int.eq_ofNat_of_zero_le hx.1
  have hn : n < 2 ^ 8 := by omega
  have hp : (2 : Nat) ^ j < 2 ^ 8 := Nat.pow_lt_pow_right (by decide) hj
  have hxx : n ^^^ 2 ^ j < 2 ^ 8 := Nat.xor_lt_two_pow hn hp
  have ec : ((2 : Int) ^ j) = ((2 ^ j : Nat) : Int) := by simp
  have em : (2 : Int) ^ j % 256 = ((2 ^ j : Nat) : Int) := by
    rw [ec]
    generalize (2 : Nat) ^ j = p at *
    omega
  have e : Go.bits .xor .u8 (n : Int) (2 ^ j % 256) = ((n ^^^ 2 ^ j : Nat) : Int) := by
    have e1 : (BitVec.ofInt 8 (n : Int)).toNat = n := by rw [BitVec.ofInt_natCast, BitVec.toNat_ofNat]; exact Nat.mod_eq_of_lt hn
    have e2 : (BitVec.ofInt 8 ((2 : Int) ^ j % 256)).toNat = 2 ^ j := by rw [em, BitVec.ofInt_natCast, BitVec.toNat_ofNat]; exact Nat.mod_eq_of_lt hp
    show IntKind.u8.wrap ((BitVec.ofInt 8 (n : Int) ^^^ BitVec.ofInt 8 ((2 : Int) ^ j % 256)).toNat : Nat) = _
    rw [BitVec.toNat_xor, e1, e2, IntKind.wrap_u8]
    omega
  rw [e, ec]
  have h := nat_flip n j
  generalize (n ^^^ 2 ^ j) = y at *
  generalize (2 : Nat) ^ j = p at *
  refine ⟨by omega, by omega, ?_⟩
  rcases h with h | h
  · left; omega
  · right; omega

theorem wsum_set (l : List Int) : ∀ (e : Bool) (p : Nat) (v : Int) (h : p < l.length), wsum e (l.set p v) = wsum e l + (if decide (p % 2 = 0) = e then 256 else 1) * (v - l[p]) := by
  induction l with
  | nil => intro e p v h; simp at h
  | cons x l ih =>
    intro e p v h
    cases p with
    | zero =>
      cases e with
      | true => simp only [List.set_cons_zero, wsum, List.getElem_cons_zero]; simp; omega
      | false => simp only [List.set_cons_zero, wsum, List.getElem_cons_zero]; simp; omega
    | succ p =>
      have hl : p < l.length := by simpa using h
      have g := ih (!e) p v hl
      simp only [List.set_cons_succ, List.getElem_cons_succ]
      have ed : decide ((p + 1) % 2 = 0) = !decide (p % 2 = 0) := by
        by_cases c : p % 2 = 0
        · have : ¬ (p + 1) % 2 = 0 := by omega
          simp [c, this]
        · have : (p + 1) % 2 = 0 := by omega
          simp [c, this]
      rw [ed]
      cases e with
      | true =>
        simp only [wsum, Bool.not_true] at g ⊢
        rw [g]
        cases decide (p % 2 = 0) <;> simp <;> omega
      | false =>
        simp only [wsum, Bool.not_false] at g ⊢
        rw [g]
        cases decide (p % 2 = 0) <;> simp <;> omega

theorem bytes_getD {l : List Int} (hl : Bytes l) (p : Nat) : 0 ≤ l.getD p 0 ∧ l.getD p 0 < 256 := by
  rcases Nat.lt_or_ge p l.length with h | h
  · have e : l.getD p 0 = l[p] := by simp [h]
    rw [e]
    exact hl _ (List.getElem_mem h)
  · have e : l.getD p 0 = 0 := by simp [h]
    rw [e]
    omega

theorem bytes_set {l : List Int} {p : Nat} {v : Int} (hl : Bytes l) (hv : 0 ≤ v ∧ v < 256) : Bytes (l.set p v) := by
  intro x hx
  rcases List.mem_or_eq_of_mem_set hx with h | h
  · exact hl x h
  · subst h; exact hv

theorem pow_mod8 {j : Nat} (hj : j < 8) : (256 * (2 : Int) ^ j) % 65535 ≠ 0 ∧ (-(256 * (2 : Int) ^ j)) % 65535 ≠ 0 ∧ ((2 : Int) ^ j) % 65535 ≠ 0 ∧ (-((2 : Int) ^ j)) % 65535 ≠ 0 ∧ 0 < (2 : Int) ^ j ∧ (2 : Int) ^ j < 256 := by
  have : ∀ i : Fin 8, (256 * (2 : Int) ^ i.val) % 65535 ≠ 0 ∧ (-(256 * (2 : Int) ^ i.val)) % 65535 ≠ 0 ∧ ((2 : Int) ^ i.val) % 65535 ≠ 0 ∧ (-((2 : Int) ^ i.val)) % 65535 ≠ 0 ∧ 0 < (2 : Int) ^ i.val ∧ (2 : Int) ^ i.val < 256 := by decide +kernel
  exact this ⟨j, hj⟩

/-- One bit changed: another checksum. -/
theorem stamp_set {a b v : Int} {j p : Nat} {l : List Int} (hl : Bytes l) (hp : p < l.length) (hv : 0 ≤ v ∧ v < 256) (hj : j < 8) (h : v = l.getD p 0 + 2 ^ j ∨ v + 2 ^ j = l.getD p 0) : stamp a b l ≠ stamp a b (l.set p v) := by
  unfold stamp csum
  rw [List.length_set]
  have h1 := front_pos (a := a) (b := b) (n := l.length) hl
  have h2 := front_pos (a := a) (b := b) (n := l.length) (bytes_set (p := p) hl hv)
  have hne : fold (wsum true (front a b l.length ++ l)) ≠ fold (wsum true (front a b l.length ++ l.set p v)) := by
    refine fold_ne h1 h2 ?_
    have hg : l.getD p 0 = l[p] := by simp [hp]
    rw [hg] at h
    rw [wsum_even l (by rw [front_length]), wsum_even (l.set p v) (by rw [front_length]), wsum_set l true p v hp]
    obtain ⟨p1, p2, p3, p4, _, _⟩ := pow_mod8 hj
    generalize (2 : Int) ^ j = q at *
    generalize l[p] = x at *
    cases decide (p % 2 = 0) with
    | true => rcases h with h | h <;> simp <;> omega
    | false => rcases h with h | h <;> simp <;> omega
  omega

theorem spoilt_decode {s : Fields} {a b : Int} {p j : Nat} (hb : s.bs.length ≤ 3) (hbody : s.body.size ≤ 1024) (hp : p < 18 + 8 * s.bs.length + s.body.size) (hj : j < 8) :
    seg_Decode.f 20000 a b (flipS (strOfNums (s.code (two (s.sum a b)))) p (j : Int)) = some (0, 0, 0, 0, 0, 0, [], ⟨#[]⟩, 8) := by
  have hcs := csum_bd (front a b (s.code [0, 0]).length ++ s.code [0, 0])
  have hsum : 0 ≤ s.sum a b ∧ s.sum a b < 65536 := by unfold Fields.sum stamp; omega
  have hb2 := s.code_bytes (two_bytes (s.sum a b))
  have hz2 : Bytes [0, 0] := bytes_cons (by omega) (bytes_cons (by omega) bytes_nil)
  have hbl : bytesOf (strOfNums (s.code (two (s.sum a b)))) = s.code (two (s.sum a b)) := bl_str _ hb2
  have hcl : (s.code (two (s.sum a b))).length = 18 + 8 * s.bs.length + s.body.size := s.code_length rfl
  have hn : s.sum a b = stamp a b (s.code [0, 0]) := rfl
  generalize s.sum a b = n at *
  have hx := bytes_getD hb2 p
  have hrd : rd (s.code (two n)) (p : Int) = (s.code (two n)).getD p 0 := rfl
  have hjn : ((j : Int)).toNat = j := by omega
  obtain ⟨f1, f2, f3⟩ := flip8 hx hj
  have hL : bytesOf (flipS (strOfNums (s.code (two n))) p (j : Int)) = (s.code (two n)).set p (Go.bits .xor .u8 ((s.code (two n)).getD p 0) (2 ^ j % 256)) := by
    unfold flipS
    rw [hbl, hrd, hjn]
    exact bl_str _ (bytes_set hb2 ⟨f1, f2⟩)
  have hsz : (flipS (strOfNums (s.code (two n))) p (j : Int)).size ≤ 10000 := by
    rw [← bytesOf_length, hL, List.length_set]
    omega
  generalize Go.bits .xor .u8 ((s.code (two n)).getD p 0) (2 ^ j % 256) = v at *
  generalize flipS (strOfNums (s.code (two n))) p (j : Int) = t at *
  have hhl : s.head.length = 16 := rfl
  by_cases c1 : p < 16
  · -- a byte of the head
    have e1 : (s.code (two n)).set p v = s.head.set p v ++ (two n ++ s.tail) := by
      unfold Fields.code
      rw [List.set_append_left _ _ (by omega)]
    have hl16 : (s.head.set p v).length = 16 := by rw [List.length_set]; exact hhl
    refine decode_bad (v := n) (r := s.tail) hsz (by omega) hsum (by rw [hL, e1, List.drop_append_of_le_length (by omega), ← hl16, List.drop_length]; rfl) ?_
    have e2 : (bytesOf t).take 16 ++ ([0, 0] ++ (bytesOf t).drop 18) = (s.code [0, 0]).set p v := by
      have e3 : (s.code [0, 0]).set p v = s.head.set p v ++ ([0, 0] ++ s.tail) := by
        unfold Fields.code
        rw [List.set_append_left _ _ (by omega)]
      rw [hL, e1, e3, List.take_append_of_le_length (by omega), List.take_of_length_le (by omega), List.drop_append, List.drop_eq_nil_of_le (by omega), hl16]
      rfl
    rw [e2, hn]
    have hp0 : p < (s.code [0, 0]).length := by rw [s.code_length rfl]; exact hp
    have e4 : (s.code (two n)).getD p 0 = (s.code [0, 0]).getD p 0 := by
      have hp1 : p < s.head.length := by omega
      unfold Fields.code
      rw [List.getD_eq_getElem?_getD, List.getD_eq_getElem?_getD, List.getElem?_append_left hp1, List.getElem?_append_left hp1]
    rw [e4] at f3
    exact stamp_set (s.code_bytes hz2) hp0 ⟨f1, f2⟩ hj f3
  · by_cases c2 : 18 ≤ p
    · -- a byte behind the checksum
      obtain ⟨i, rfl⟩ : ∃ i, p = i + 18 := ⟨p - 18, by omega⟩
      have e1 : (s.code (two n)).set (i + 18) v = s.head ++ (two n ++ s.tail.set i v) := by
        have h2 : (two n).length = 2 := rfl
        unfold Fields.code
        rw [List.set_append_right _ _ (by omega), List.set_append_right _ _ (by omega), hhl, h2]
        rfl
      have e3 : (s.code [0, 0]).set (i + 18) v = s.head ++ ([0, 0] ++ s.tail.set i v) := by
        have h2 : ([0, 0] : List Int).length = 2 := rfl
        unfold Fields.code
        rw [List.set_append_right _ _ (by omega), List.set_append_right _ _ (by omega), hhl, h2]
        rfl
      refine decode_bad (v := n) (r := s.tail.set i v) hsz (by omega) hsum (by rw [hL, e1]; rfl) ?_
      have e2 : (bytesOf t).take 16 ++ ([0, 0] ++ (bytesOf t).drop 18) = (s.code [0, 0]).set (i + 18) v := by
        rw [hL, e1, e3]
        rfl
      rw [e2, hn]
      have hp0 : i + 18 < (s.code [0, 0]).length := by rw [s.code_length rfl]; exact hp
      have e4 : (s.code (two n)).getD (i + 18) 0 = (s.code [0, 0]).getD (i + 18) 0 := rfl
      rw [e4] at f3
      exact stamp_set (s.code_bytes hz2) hp0 ⟨f1, f2⟩ hj f3
    · -- a byte of the checksum itself
      obtain ⟨_, _, _, _, p5, p6⟩ := pow_mod8 hj
      by_cases c3 : p = 16
      · subst c3
        have hx16 : (s.code (two n)).getD 16 0 = n / 256 % 256 := rfl
        rw [hx16] at f3
        have e1 : (s.code (two n)).set 16 v = s.head ++ ([v, n % 256] ++ s.tail) := rfl
        have ev : two (256 * v + n % 256) = [v, n % 256] := by
          unfold two
          have a1 : (256 * v + n % 256) / 256 % 256 = v := by omega
          have a2 : (256 * v + n % 256) % 256 = n % 256 := by omega
          rw [a1, a2]
        refine decode_bad (v := 256 * v + n % 256) (r := s.tail) hsz (by omega) (by omega) (by rw [hL, e1, ev]; rfl) ?_
        have e2 : (bytesOf t).take 16 ++ ([0, 0] ++ (bytesOf t).drop 18) = s.code [0, 0] := by rw [hL, e1]; rfl
        rw [e2, ← hn]
        generalize (2 : Int) ^ j = q at *
        omega
      · have : p = 17 := by omega
        subst this
        have hx17 : (s.code (two n)).getD 17 0 = n % 256 := rfl
        rw [hx17] at f3
        have e1 : (s.code (two n)).set 17 v = s.head ++ ([n / 256 % 256, v] ++ s.tail) := rfl
        have ev : two (256 * (n / 256 % 256) + v) = [n / 256 % 256, v] := by
          unfold two
          have a1 : (256 * (n / 256 % 256) + v) / 256 % 256 = n / 256 % 256 := by omega
          have a2 : (256 * (n / 256 % 256) + v) % 256 = v := by omega
          rw [a1, a2]
        refine decode_bad (v := 256 * (n / 256 % 256) + v) (r := s.tail) hsz (by omega) (by omega) (by rw [hL, e1, ev]; rfl) ?_
        have e2 : (bytesOf t).take 16 ++ ([0, 0] ++ (bytesOf t).drop 18) = s.code [0, 0] := by rw [hL, e1]; rfl
        rw [e2, ← hn]
        generalize (2 : Int) ^ j = q at *
        omega

/-- SegSpoilt answers true, whatever the segment, the place and the bit. -/
theorem SegSpoilt (a b : Int) (s : Fields) (x y : Int) (A : Option Addr) (c : Nat) (w : World) (hC : Kd.C k31 w A s.bs.length s.bs) (hc : s.bs.length ≤ c) (hfl : -9223372036854775808 ≤ s.fl ∧ s.fl ≤ 9223372036854775807) :
    Calls Try.prog 8 #[.int .u32 a, .int .u32 b, .agg #[.int .i64 s.src, .int .i64 s.dst, .int .u32 s.seq, .int .u32 s.ack, .int .i64 s.fl, .int .i64 s.win, .slice A s.bs.length c, .string s.body], .int .i64 x, .int .i64 y] w fun e w' => e = .returned (.bool true) ∧ Below w.heap.size w w' := by
  rcases encode_f s a b hfl with ⟨e, he, hk⟩ | ⟨hk, hch, _, _, _, _, _, _, _, _, h9, h10⟩
  · exact spoilt_calls_error 20000 a b s.src s.dst s.seq s.ack s.fl s.win A c s.bs s.body x y ⟨#[]⟩ e w hC hc fact_else (hk 20000 (by omega)) he
  · have hcl : (s.code (two (s.sum a b))).length = 18 + 8 * s.bs.length + s.body.size := s.code_length rfl
    have hsz : (strOfNums (s.code (two (s.sum a b)))).size = 18 + 8 * s.bs.length + s.body.size := by rw [strOfNums_size]; exact hcl
    have r1 := @rst_bd x ((strOfNums (s.code (two (s.sum a b)))).size : Int) (by omega)
    have r2 := @rst_bd y 8 (by omega)
    have q1 : patchbaykeep3_rest.f x ((strOfNums (s.code (two (s.sum a b)))).size : Int) = some (rst x ((strOfNums (s.code (two (s.sum a b)))).size : Int)) := rest_eq (by omega) (by omega)
    have q2 : patchbaykeep3_rest.f y 8 = some (rst y 8) := rest_eq (by omega) (by omega)
    obtain ⟨p, hp⟩ := Int.eq_ofNat_of_zero_le r1.1
    obtain ⟨j, hj⟩ := Int.eq_ofNat_of_zero_le r2.1
    rw [hp] at q1
    rw [hj] at q2
    have hd := spoilt_decode (s := s) (a := a) (b := b) (p := p) (j := j) h9 h10 (by omega) (by omega)
    have g := spoilt_calls 20000 a b s.src s.dst s.seq s.ack s.fl s.win A c s.bs s.body x y _ p (j : Int) 0 0 0 0 0 0 [] ⟨#[]⟩ 8 w hC hc fact_else (hk 20000 (by omega)) q1 q2 (by omega) (by omega) (by omega) (by omega) hd
    exact g

end Go.Proofs.Ytlcccmaolbjcfaa.Pure
