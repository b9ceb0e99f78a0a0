/- A segment is decoded from its encoding: the plain law behind SegBack. -/
import Derived.Test.YtlcccmaolbjcfaaWalkBack
import Derived.Test.YtlcccmaolbjcfaaSegCode
namespace Go.Proofs.Ytlcccmaolbjcfaa.Pure
open Go.RowKit Go.Proofs.Ytlcccmaolbjcfaa.PSegElsewhere Go.Proofs.YtlcccmaolbjcfaaW.PrintWords Go.Proofs.YtlcccmaolbjcfaaW.PrintLast
open Go.Proofs.Ytlcccmaolbjcfaa.Mine Go.Proofs.Ytlcccmaolbjcfaa.Seg
set_option linter.unusedVariables false
set_option linter.unusedSimpArgs false

theorem fact_back : patchbaykeep3_segFact.f 20000 = some true := at_rounds patchbaykeep3_segFact.mono (k := 100) (by omega) (by decide +kernel)

theorem code_drop {s : Fields} {c : List Int} (hc : c.length = 2) (i : Nat) (hi : i ≤ s.bs.length) : (s.code c).drop (18 + 8 * i) = blk (s.bs.drop i) ++ bytesOf s.body := by
  have e : (s.code c).drop 18 = s.tail := by
    match c, hc with
    | [x, y], _ => rfl
  rw [← List.drop_drop, e]
  exact blk_drop s.bs i _ hi

theorem blocks_back {s : Fields} {t : ByteArray} {c : List Int} (hc : c.length = 2) (ht : bytesOf t = s.code c) (hb : s.bs.length ≤ 3) (hbody : s.body.size ≤ 1024)
    (hw : ∀ b ∈ s.bs, (0 ≤ b.f0 ∧ b.f0 < 4294967296) ∧ (0 ≤ b.f1 ∧ b.f1 < 4294967296))
    (hch : ∀ k, 10 ≤ k → seg_Check.f k s.src s.dst s.seq s.ack s.fl s.win s.bs s.body = some 0) :
    ∀ (r k i : Nat), s.bs.length - i = r → i ≤ s.bs.length → r + 20 ≤ k →
    seg_Decode.l0 k t s.bs.length s.bs.length i s.src s.dst s.seq s.ack s.fl s.win (s.bs.take i) ⟨#[]⟩ = some (s.src, s.dst, s.seq, s.ack, s.fl, s.win, s.bs, s.body, 0) := by
  have hsz : t.size = 18 + 8 * s.bs.length + s.body.size := by rw [← bytesOf_length, ht]; exact s.code_length hc
  intro r
  induction r with
  | zero =>
    intro k i hr hi hk
    obtain ⟨k, rfl⟩ : ∃ m, k = m + 1 := ⟨k - 1, by omega⟩
    obtain rfl : i = s.bs.length := by omega
    have e1 : wrap64 (18 + wrap64 (8 * (s.bs.length : Int))) = ((18 + 8 * s.bs.length : Nat) : Int) := by
      rw [wrap64_in (n := 8 * (s.bs.length : Int)) (by omega), wrap64_in (by omega)]
      omega
    have e2 : ((18 + 8 * s.bs.length : Nat) : Int).toNat = 18 + 8 * s.bs.length := by omega
    have e3 : t.extract (18 + 8 * s.bs.length) t.size = s.body := by
      refine bl_inj ?_
      rw [bl_extract, ← bytesOf_length t, List.take_length, ht, code_drop hc _ (Nat.le_refl _), List.drop_length]
      rfl
    rw [seg_Decode.l0, if_neg (by omega), e1, if_pos (by omega), if_pos (by omega), e2, e3, List.take_length, hch k (by omega), Option.bind_some, if_pos rfl]
  | succ r ih =>
    intro k i hr hi hk
    obtain ⟨k, rfl⟩ : ∃ m, k = m + 1 := ⟨k - 1, by omega⟩
    have hlt : i < s.bs.length := by omega
    obtain ⟨w0, w1⟩ := hw _ (List.getElem_mem hlt)
    have e1 : wrap64 (18 + wrap64 (8 * (i : Int))) = ((18 + 8 * i : Nat) : Int) := by
      rw [wrap64_in (n := 8 * (i : Int)) (by omega), wrap64_in (by omega)]
      omega
    have e2 : wrap64 (((18 + 8 * i : Nat) : Int) + 4) = ((18 + 8 * i + 4 : Nat) : Int) := by
      rw [wrap64_in (by omega)]
      omega
    have hd : (bytesOf t).drop (18 + 8 * i) = four (s.bs[i]).f0 ++ (four (s.bs[i]).f1 ++ (blk (s.bs.drop (i + 1)) ++ bytesOf s.body)) := by
      rw [ht, code_drop hc i hi, List.drop_eq_getElem_cons hlt]
      simp [blk]
    have hd2 : (bytesOf t).drop (18 + 8 * i + 4) = four (s.bs[i]).f1 ++ (blk (s.bs.drop (i + 1)) ++ bytesOf s.body) := by
      rw [← List.drop_drop, hd]
      rfl
    rw [seg_Decode.l0, if_pos (by omega), e1, long_f (by omega) w0 hd, Option.bind_some, e2, long_f (by omega) w1 hd2, Option.bind_some, if_pos (by simp; omega), wrap64_in (by omega)]
    have g := ih k (i + 1) (by omega) (by omega) (by omega)
    have e3 : ((i + 1 : Nat) : Int) = (i : Int) + 1 := by omega
    rw [e3, List.take_succ_eq_append_getElem hlt] at g
    exact g

theorem decode_good {s : Fields} {a b : Int} (hseq : 0 ≤ s.seq ∧ s.seq < 4294967296) (hack : 0 ≤ s.ack ∧ s.ack < 4294967296) (h1 : 0 ≤ s.src) (h2 : s.src ≤ 65535) (h3 : 0 ≤ s.dst) (h4 : s.dst ≤ 65535) (h5 : 0 ≤ s.fl) (h6 : s.fl ≤ 23)
    (h7 : 0 ≤ s.win) (h8 : s.win ≤ 65535) (hb : s.bs.length ≤ 3) (hbody : s.body.size ≤ 1024) (hw : ∀ b ∈ s.bs, (0 ≤ b.f0 ∧ b.f0 < 4294967296) ∧ (0 ≤ b.f1 ∧ b.f1 < 4294967296))
    (hch : ∀ k, 10 ≤ k → seg_Check.f k s.src s.dst s.seq s.ack s.fl s.win s.bs s.body = some 0) :
    seg_Decode.f 20000 a b (strOfNums (s.code (two (s.sum a b)))) = some (s.src, s.dst, s.seq, s.ack, s.fl, s.win, s.bs, s.body, 0) := by
  have hcs := csum_bd (front a b (s.code [0, 0]).length ++ s.code [0, 0])
  have hsum : 0 ≤ s.sum a b ∧ s.sum a b < 65536 := by unfold Fields.sum stamp; omega
  have hb2 := s.code_bytes (two_bytes (s.sum a b))
  have hz2 : Bytes [0, 0] := bytes_cons (by omega) (bytes_cons (by omega) bytes_nil)
  have ht : bytesOf (strOfNums (s.code (two (s.sum a b)))) = s.code (two (s.sum a b)) := bl_str _ hb2
  have hsz : (strOfNums (s.code (two (s.sum a b)))).size = 18 + 8 * s.bs.length + s.body.size := by rw [strOfNums_size]; exact s.code_length rfl
  generalize hn : s.sum a b = n at *
  generalize strOfNums (s.code (two n)) = t at *
  have hlen := bytesOf_length t
  have e1 : (t.extract 0 16 ++ (⟨#[0, 0]⟩ : ByteArray)).size = 18 := by
    rw [ByteArray.size_append, ByteArray.size_extract]
    have e_ : (⟨#[0, 0]⟩ : ByteArray).size = 2 := rfl
    omega
  have e2 : (t.extract 0 16).size = 16 := by rw [ByteArray.size_extract]; omega
  have e3 : (t.extract 18 t.size).size = t.size - 18 := by rw [ByteArray.size_extract]; omega
  have e4 : bytesOf (t.extract 0 16 ++ (⟨#[0, 0]⟩ : ByteArray) ++ t.extract 18 t.size) = s.code [0, 0] := by
    rw [bl_append, bl_append, bl_extract, bl_extract, List.drop_zero, ← hlen, List.take_length, List.append_assoc, ht]
    rfl
  have w := word_f (s := t) (p := 16) (v := n) (r := s.tail) (by omega) hsum (by rw [ht]; rfl)
  have e16 : ((16 : Nat) : Int) = 16 := rfl
  rw [e16] at w
  have b13 : bt t 13 = (s.bs.length : Int) := by
    rw [← rd_bytesOf, ht]
    show (s.bs.length : Int) % 256 = _
    omega
  have b12 : bt t 12 = s.fl := by
    rw [← rd_bytesOf, ht]
    show s.fl % 256 = _
    omega
  have d1 : decide ((t.size : Int) < wrap64 (18 + wrap64 (8 * (s.bs.length : Int)))) = false := by
    rw [wrap64_in (n := 8 * (s.bs.length : Int)) (by omega), wrap64_in (by omega)]
    simp
    omega
  have w0 : seg_word.f t 0 = some s.src := word_f (s := t) (p := 0) (v := s.src) (r := (s.code (two n)).drop 2) (by omega) (by omega) (by rw [ht]; rfl)
  have w2 : seg_word.f t 2 = some s.dst := word_f (s := t) (p := 2) (v := s.dst) (r := (s.code (two n)).drop 4) (by omega) (by omega) (by rw [ht]; rfl)
  have w4 : seg_long.f t 4 = some s.seq := long_f (s := t) (p := 4) (v := s.seq) (r := (s.code (two n)).drop 8) (by omega) (by omega) (by rw [ht]; rfl)
  have w8 : seg_long.f t 8 = some s.ack := long_f (s := t) (p := 8) (v := s.ack) (r := (s.code (two n)).drop 12) (by omega) (by omega) (by rw [ht]; rfl)
  have w14 : seg_word.f t 14 = some s.win := word_f (s := t) (p := 14) (v := s.win) (r := (s.code (two n)).drop 16) (by omega) (by omega) (by rw [ht]; rfl)
  have g := blocks_back (c := two n) rfl ht hb hbody hw hch s.bs.length 19999 0 (by omega) (by omega) (by omega)
  have e0 : ((0 : Nat) : Int) = 0 := rfl
  rw [e0, List.take_zero] at g
  unfold seg_Decode.f
  rw [if_neg (by omega), w, Option.bind_some, if_pos (by omega), if_pos (by omega), e2, if_pos (by omega), if_pos (by omega), e1, e3, if_pos (by omega),
    sealed_f (by rw [ByteArray.size_append, e1, e3]; omega) (by rw [ByteArray.size_append, e1, e3]; omega), Option.bind_some, e4]
  have en : n = stamp a b (s.code [0, 0]) := hn.symm
  rw [if_pos en, if_pos (by omega), b13, wrap64_in (n := (s.bs.length : Int)) (by omega), if_neg (by omega), d1, seg_Decode.j0, if_neg (by simp), w0, Option.bind_some, w2, Option.bind_some, w4, Option.bind_some, w8, Option.bind_some,
    if_pos (by omega), w14, Option.bind_some, b12, wrap64_in (n := s.fl) (by omega)]
  exact g

theorem SegBack (a b : Int) (s : Fields) (ha : 0 ≤ a ∧ a < 4294967296) (hb : 0 ≤ b ∧ b < 4294967296) (hfl : -9223372036854775808 ≤ s.fl ∧ s.fl ≤ 9223372036854775807)
    (hseq : 0 ≤ s.seq ∧ s.seq < 4294967296) (hack : 0 ≤ s.ack ∧ s.ack < 4294967296) (hw : ∀ b ∈ s.bs, (0 ≤ b.f0 ∧ b.f0 < 4294967296) ∧ (0 ≤ b.f1 ∧ b.f1 < 4294967296)) :
    patchbaykeep3_SegBack.f 20000 a b s.src s.dst s.seq s.ack s.fl s.win s.bs s.body = some true := by
  unfold patchbaykeep3_SegBack.f
  rw [fact_back, Option.bind_some, if_pos rfl]
  rcases encode_f s a b hfl with ⟨e, he, hk⟩ | ⟨hk, hc, h1, h2, h3, h4, h5, h6, h7, h8, h9, h10⟩
  · rw [hk 20000 (by omega), Option.bind_some]
    dsimp only
    have hd : seg_Decode.f 20000 a b ⟨#[]⟩ = some (0, 0, 0, 0, 0, 0, [], ⟨#[]⟩, 9) := by
      unfold seg_Decode.f
      rw [if_pos (by decide)]
    rw [hd, Option.bind_some]
    dsimp only
    rw [if_neg he, if_pos (by rw [ByteArray.toList_eq])]
    rfl
  · rw [hk 20000 (by omega), Option.bind_some]
    dsimp only
    rw [decode_good hseq hack h1 h2 h3 h4 h5 h6 h7 h8 h9 h10 hw hc, Option.bind_some]
    dsimp only
    rw [if_pos rfl, hk 20000 (by omega), Option.bind_some]
    dsimp only
    rw [if_pos rfl, if_pos rfl, if_pos rfl, if_pos rfl, if_pos rfl, if_pos rfl]
    simp

end Go.Proofs.Ytlcccmaolbjcfaa.Pure
