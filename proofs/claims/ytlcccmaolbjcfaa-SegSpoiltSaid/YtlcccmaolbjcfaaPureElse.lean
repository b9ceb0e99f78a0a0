/- A segment for an address that differs in a single bit is rejected: the plain law behind SegElsewhere. -/
import Derived.Test.YtlcccmaolbjcfaaWalkElse
import Derived.Test.YtlcccmaolbjcfaaSegCode
namespace Go.Proofs.Ytlcccmaolbjcfaa.Pure
open Go.RowKit Go.Proofs.Ytlcccmaolbjcfaa.PSegElsewhere Go.Proofs.YtlcccmaolbjcfaaW.PrintWords Go.Proofs.YtlcccmaolbjcfaaW.PrintLast
open Go.Proofs.Ytlcccmaolbjcfaa.Mine Go.Proofs.Ytlcccmaolbjcfaa.Seg
set_option linter.unusedVariables false
set_option linter.unusedSimpArgs false

theorem fact_else : patchbaykeep3_segFact.f 20000 = some true := at_rounds patchbaykeep3_segFact.mono (k := 100) (by omega) (by decide +kernel)

theorem nat_flip (b j : Nat) : (b ^^^ 2 ^ j) = b + 2 ^ j ∨ (b ^^^ 2 ^ j) + 2 ^ j = b := by
  have h1 : (b ^^^ 2 ^ j) / 2 ^ j = b / 2 ^ j ^^^ 1 := by
    rw [Nat.xor_div_two_pow, Nat.div_self (Nat.two_pow_pos j)]
  have h2 : (b ^^^ 2 ^ j) % 2 ^ j = b % 2 ^ j := by
    rw [Nat.xor_mod_two_pow, Nat.mod_self, Nat.xor_zero]
  have h3 := Nat.div_add_mod (b ^^^ 2 ^ j) (2 ^ j)
  have h4 := Nat.div_add_mod b (2 ^ j)
  rw [h1, h2] at h3
  generalize b / 2 ^ j = q at *
  have hq : q ^^^ 1 = q + 1 ∨ (q ^^^ 1) + 1 = q := by
    have a1 : (q ^^^ 1) / 2 = q / 2 := by
      have := @Nat.xor_div_two_pow q 1 1
      simpa using this
    have a2 : (q ^^^ 1) % 2 = (q + 1) % 2 := by
      have := @Nat.xor_mod_two_pow q 1 1
      have e : (q ^^^ 1) % 2 = (q % 2) ^^^ 1 := by simpa using this
      rcases Nat.mod_two_eq_zero_or_one q with h | h
      · rw [e, h]
        have : (0 : Nat) ^^^ 1 = 1 := rfl
        omega
      · rw [e, h]
        have : (1 : Nat) ^^^ 1 = 0 := rfl
        omega
    omega
  rcases hq with hq | hq
  · left
    rw [hq, Nat.mul_add] at h3
    omega
  · right
    have e : q = (q ^^^ 1) + 1 := hq.symm
    rw [e, Nat.mul_add] at h4
    omega

theorem flip32 {b : Int} {j : Nat} (hb : 0 ≤ b ∧ b < 4294967296) (hj : j < 32) :
    0 ≤ Go.bits .xor .u32 b (2 ^ j) ∧ Go.bits .xor .u32 b (2 ^ j) < 4294967296 ∧ (Go.bits .xor .u32 b (2 ^ j) = b + 2 ^ j ∨ Go.bits .xor .u32 b (2 ^ j) + 2 ^ j = b) := by
  obtain ⟨n, rfl⟩ := Int.eq_ofNat_of_zero_le hb.1
  have hn : n < 2 ^ 32 := by omega
  have hp : (2 : Nat) ^ j < 2 ^ 32 := Nat.pow_lt_pow_right (by decide) hj
  have hx : n ^^^ 2 ^ j < 2 ^ 32 := Nat.xor_lt_two_pow hn hp
  have e : Go.bits .xor .u32 (n : Int) (2 ^ j) = ((n ^^^ 2 ^ j : Nat) : Int) := by
    have ec : ((2 : Int) ^ j) = ((2 ^ j : Nat) : Int) := by simp
    have e1 : (BitVec.ofInt 32 (n : Int)).toNat = n := by rw [BitVec.ofInt_natCast, BitVec.toNat_ofNat]; exact Nat.mod_eq_of_lt hn
    have e2 : (BitVec.ofInt 32 ((2 : Int) ^ j)).toNat = 2 ^ j := by rw [ec, BitVec.ofInt_natCast, BitVec.toNat_ofNat]; exact Nat.mod_eq_of_lt hp
    show IntKind.u32.wrap ((BitVec.ofInt 32 (n : Int) ^^^ BitVec.ofInt 32 ((2 : Int) ^ j)).toNat : Nat) = _
    rw [BitVec.toNat_xor, e1, e2, IntKind.wrap_u32]
    omega
  rw [e]
  refine ⟨by omega, by omega, ?_⟩
  have ec : ((2 : Int) ^ j) = ((2 ^ j : Nat) : Int) := by simp
  rw [ec]
  have h := nat_flip n j
  generalize (n ^^^ 2 ^ j) = y at *
  generalize (2 : Nat) ^ j = p at *
  rcases h with h | h
  · left; omega
  · right; omega

theorem pow_mod {j : Nat} (hj : j < 32) : ((2 : Int) ^ j) % 65535 ≠ 0 ∧ (-((2 : Int) ^ j)) % 65535 ≠ 0 := by
  have : ∀ i : Fin 32, ((2 : Int) ^ i.val) % 65535 ≠ 0 ∧ (-((2 : Int) ^ i.val)) % 65535 ≠ 0 := by decide +kernel
  exact this ⟨j, hj⟩

theorem front_split (a b n : Int) (r : List Int) : wsum true (front a b n ++ r) = wsum true (four a) + wsum true (four b) + wsum true ([0, 6] ++ two n ++ r) := by
  have e : front a b n ++ r = four a ++ (four b ++ ([0, 6] ++ two n ++ r)) := by simp [front]
  rw [e, wsum_even _ (by simp [four]), wsum_even (a := four b) _ (by simp [four])]
  omega

/-- Another address in one bit: another checksum. -/
theorem stamp_else {a b b' : Int} {j : Nat} {l : List Int} (hl : Bytes l) (hb : 0 ≤ b ∧ b < 4294967296) (hb' : 0 ≤ b' ∧ b' < 4294967296) (hj : j < 32) (h : b' = b + 2 ^ j ∨ b' + 2 ^ j = b) : stamp a b l ≠ stamp a b' l := by
  unfold stamp csum
  have h1 := front_pos (a := a) (b := b) (n := l.length) hl
  have h2 := front_pos (a := a) (b := b') (n := l.length) hl
  have hne : fold (wsum true (front a b l.length ++ l)) ≠ fold (wsum true (front a b' l.length ++ l)) := by
    refine fold_ne h1 h2 ?_
    rw [front_split, front_split]
    obtain ⟨q, hq⟩ := wsum_four b hb
    obtain ⟨q', hq'⟩ := wsum_four b' hb'
    obtain ⟨p1, p2⟩ := pow_mod hj
    rw [hq, hq']
    generalize (2 : Int) ^ j = p at *
    rcases h with h | h
    · omega
    · omega
  omega

theorem SegElsewhere (a b : Int) (s : Fields) (x : Int) (ha : 0 ≤ a ∧ a < 4294967296) (hb : 0 ≤ b ∧ b < 4294967296) (hfl : -9223372036854775808 ≤ s.fl ∧ s.fl ≤ 9223372036854775807) :
    patchbaykeep3_SegElsewhere.f 20000 a b s.src s.dst s.seq s.ack s.fl s.win s.bs s.body x = some true := by
  unfold patchbaykeep3_SegElsewhere.f
  rw [fact_else, Option.bind_some, if_pos rfl]
  rcases encode_f s a b hfl with ⟨e, he, hk⟩ | ⟨hk, hc, _, _, _, _, _, _, _, _, h9, h10⟩
  · rw [hk 20000 (by omega), Option.bind_some]
    dsimp only
    rw [if_neg he]
  · rw [hk 20000 (by omega), Option.bind_some]
    dsimp only
    have hr := @rst_bd x 32 (by omega)
    have hrest : patchbaykeep3_rest.f x 32 = some (rst x 32) := rest_eq (by omega) (by omega)
    rw [if_pos rfl, hrest, Option.bind_some, if_pos hr.1]
    obtain ⟨j, hj⟩ := Int.eq_ofNat_of_zero_le hr.1
    have hj32 : j < 32 := by omega
    rw [hj]
    have hshl : shl .u32 1 (j : Int) = 2 ^ j := by
      unfold shl
      have e : min ((j : Int)).toNat IntKind.u32.bits = j := by
        have : IntKind.u32.bits = 32 := rfl
        omega
      rw [e, IntKind.wrap_u32]
      have hp : (2 : Nat) ^ j < 2 ^ 32 := Nat.pow_lt_pow_right (by decide) hj32
      have ec : ((2 : Int) ^ j) = ((2 ^ j : Nat) : Int) := by simp
      rw [ec]
      generalize (2 : Nat) ^ j = p at *
      omega
    rw [hshl]
    obtain ⟨f1, f2, f3⟩ := flip32 hb hj32
    generalize Go.bits .xor .u32 b (2 ^ j) = b' at *
    have hcs := csum_bd (front a b (s.code [0, 0]).length ++ s.code [0, 0])
    have hsum : 0 ≤ s.sum a b ∧ s.sum a b < 65536 := by unfold Fields.sum stamp; omega
    have hb2 := s.code_bytes (two_bytes (s.sum a b))
    have hz2 : Bytes [0, 0] := bytes_cons (by omega) (bytes_cons (by omega) bytes_nil)
    have hbl : bytesOf (strOfNums (s.code (two (s.sum a b)))) = s.code (two (s.sum a b)) := bl_str _ hb2
    have hsz : (strOfNums (s.code (two (s.sum a b)))).size = (s.code (two (s.sum a b))).length := strOfNums_size _
    have hcl : (s.code (two (s.sum a b))).length = 18 + 8 * s.bs.length + s.body.size := s.code_length rfl
    have hd : seg_Decode.f 20000 a b' (strOfNums (s.code (two (s.sum a b)))) = some (0, 0, 0, 0, 0, 0, [], ⟨#[]⟩, 8) := by
      refine decode_bad (v := s.sum a b) (r := s.tail) (by omega) (by omega) hsum (by rw [hbl]; rfl) ?_
      rw [hbl]
      have e : (s.code (two (s.sum a b))).take 16 ++ ([0, 0] ++ (s.code (two (s.sum a b))).drop 18) = s.code [0, 0] := rfl
      rw [e]
      exact stamp_else (s.code_bytes hz2) hb ⟨f1, f2⟩ hj32 f3
    rw [hd, Option.bind_some]
    rfl

end Go.Proofs.Ytlcccmaolbjcfaa.Pure
