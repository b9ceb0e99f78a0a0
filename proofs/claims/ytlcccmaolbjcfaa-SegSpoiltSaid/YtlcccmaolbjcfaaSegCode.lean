/- The encoding of a segment as a list of bytes, and that seg.Check, seg.Encode and the readers of seg.Decode answer it. -/
import Derived.Test.YtlcccmaolbjcfaaSegSum
import Derived.Test.YtlcccmaolbjcfaaPSegElsewherex2
import Derived.Test.YtlcccmaolbjcfaaPSegElsewherex3
import Derived.Test.YtlcccmaolbjcfaaDecode
namespace Go.Proofs.Ytlcccmaolbjcfaa.Seg
open Go.RowKit Go.Proofs.Ytlcccmaolbjcfaa.PSegElsewhere Go.Proofs.YtlcccmaolbjcfaaW.PrintWords Go.Proofs.Ytlcccmaolbjcfaa.Mine
set_option linter.unusedVariables false
set_option linter.unusedSimpArgs false

def two (n : Int) : List Int := [n / 256 % 256, n % 256]
def four (n : Int) : List Int := [n / 16777216 % 256, n / 65536 % 256, n / 256 % 256, n % 256]
def Bytes (l : List Int) : Prop := ∀ x ∈ l, 0 ≤ x ∧ x < 256

theorem bytes_nil : Bytes [] := fun x hx => by cases hx
theorem bytes_cons {x : Int} {l : List Int} (h0 : 0 ≤ x ∧ x < 256) (hl : Bytes l) : Bytes (x :: l) := by
  intro y hy
  rcases List.mem_cons.mp hy with rfl | hy
  · exact h0
  · exact hl y hy
theorem bytes_append {a b : List Int} (ha : Bytes a) (hb : Bytes b) : Bytes (a ++ b) := by
  intro x hx
  rcases List.mem_append.mp hx with h | h
  · exact ha x h
  · exact hb x h
theorem two_bytes (n : Int) : Bytes (two n) := bytes_cons (by omega) (bytes_cons (by omega) bytes_nil)
theorem four_bytes (n : Int) : Bytes (four n) := bytes_cons (by omega) (bytes_cons (by omega) (bytes_cons (by omega) (bytes_cons (by omega) bytes_nil)))

theorem two_f (n : Int) : seg_two.f n = some (two n) := rfl
theorem four_f (n : Int) : seg_four.f n = some (four n) := rfl

/-- What stands before a segment for its checksum. -/
def front (a b n : Int) : List Int := four a ++ four b ++ [0, 6] ++ two n
theorem front_length (a b n : Int) : (front a b n).length = 12 := rfl
theorem front_bytes (a b n : Int) : Bytes (front a b n) :=
  bytes_append (bytes_append (bytes_append (four_bytes a) (four_bytes b)) (bytes_cons (by omega) (bytes_cons (by omega) bytes_nil))) (two_bytes n)

def stamp (a b : Int) (l : List Int) : Int := csum (front a b l.length ++ l)

theorem sealed_f {k : Nat} {a b : Int} {s : ByteArray} (hs : s.size ≤ 100000) (hk : s.size + 40 ≤ k) : seg_sealed.f k a b s = some (stamp a b (bytesOf s)) := by
  have hsz : (strOfNums (four a ++ four b ++ [0, 6] ++ two (s.size : Int))).size = 12 := strOfNums_size _
  have hfb : bytesOf (strOfNums (four a ++ four b ++ [0, 6] ++ two (s.size : Int))) = front a b s.size := bl_str _ (front_bytes a b s.size)
  unfold seg_sealed.f
  rw [four_f, Option.bind_some, four_f, Option.bind_some, if_pos (by simp [four]), Option.bind_some, Option.bind_some, if_pos (by simp [four]), Option.bind_some, two_f, Option.bind_some,
    if_pos (by simp [four, two]), Option.bind_some, hsz, if_pos (by omega), sum_f (by rw [ByteArray.size_append, hsz]; omega) (by rw [ByteArray.size_append, hsz]; omega), Option.bind_some,
    bl_append, hfb]
  unfold stamp
  rw [bytesOf_length]

def hdr (src dst seq ack fl nb win : Int) : List Int := two src ++ two dst ++ four seq ++ four ack ++ [fl % 256, nb % 256] ++ two win
theorem hdr_length (src dst seq ack fl nb win : Int) : (hdr src dst seq ack fl nb win).length = 16 := rfl
theorem hdr_bytes (src dst seq ack fl nb win : Int) : Bytes (hdr src dst seq ack fl nb win) :=
  bytes_append (bytes_append (bytes_append (bytes_append (bytes_append (two_bytes _) (two_bytes _)) (four_bytes _)) (four_bytes _)) (bytes_cons (by omega) (bytes_cons (by omega) bytes_nil))) (two_bytes _)

def blk : List S31 → List Int
  | [] => []
  | b :: l => four b.f0 ++ (four b.f1 ++ blk l)
theorem blk_length (l : List S31) : (blk l).length = 8 * l.length := by
  induction l with
  | nil => rfl
  | cons b l ih => simp [blk, four, ih]; omega
theorem blk_bytes (l : List S31) : Bytes (blk l) := by
  induction l with
  | nil => exact bytes_nil
  | cons b l ih => exact bytes_append (four_bytes _) (bytes_append (four_bytes _) ih)
theorem blk_drop (l : List S31) : ∀ (i : Nat) (r : List Int), i ≤ l.length → (blk l ++ r).drop (8 * i) = blk (l.drop i) ++ r := by
  induction l with
  | nil => intro i r h; have : i = 0 := by simpa using h
           subst this; rfl
  | cons b l ih =>
    intro i r h
    cases i with
    | zero => rfl
    | succ i =>
      have e : 8 * (i + 1) = 8 * i + 8 := by omega
      rw [e, List.drop_succ_cons, ← ih i r (by simpa using h)]
      show List.drop (8 * i + 8) (four b.f0 ++ (four b.f1 ++ blk l) ++ r) = _
      rw [Nat.add_comm, ← List.drop_drop]
      rfl

theorem rd31 {l : List S31} {i : Nat} (h : i < l.length) : rd_T31 l i = l[i] := by
  unfold rd_T31
  simp [h]

theorem bytes_loop (bs : List S31) (body : ByteArray) (hb : bs.length ≤ 1000) (hs : body.size ≤ 100000) (a b c d e f : Int) :
    ∀ (r k i : Nat) (out : List Int), bs.length - i = r → i ≤ bs.length → r < k → out.length + 8 * r ≤ 100000 →
    seg_bytes.l0 k out bs bs.length i a b c d e f bs body = some (out ++ (blk (bs.drop i) ++ bytesOf body)) := by
  intro r
  induction r with
  | zero =>
    intro k i out hr hi hk ho
    obtain ⟨k, rfl⟩ : ∃ m, k = m + 1 := ⟨k - 1, by omega⟩
    obtain rfl : i = bs.length := by omega
    rw [seg_bytes.l0, if_neg (by omega), if_pos (by omega), List.drop_length]
    rfl
  | succ r ih =>
    intro k i out hr hi hk ho
    obtain ⟨k, rfl⟩ : ∃ m, k = m + 1 := ⟨k - 1, by omega⟩
    have hlt : i < bs.length := by omega
    rw [seg_bytes.l0, if_pos (by omega), if_pos (by omega), if_pos (by omega), rd31 hlt, four_f, Option.bind_some, if_pos (by simp [four]; omega), Option.bind_some, four_f, Option.bind_some,
      if_pos (by simp [four]; omega), wrap64_in (by omega)]
    have g := ih k (i + 1) (out ++ four (bs[i]).f0 ++ four (bs[i]).f1) (by omega) (by omega) (by omega) (by simp [four]; omega)
    have e1 : ((i + 1 : Nat) : Int) = (i : Int) + 1 := by omega
    rw [e1] at g
    rw [g, List.drop_eq_getElem_cons hlt]
    simp [blk]

/-- A segment's fields. -/
structure Fields where
  src : Int
  dst : Int
  seq : Int
  ack : Int
  fl : Int
  win : Int
  bs : List S31
  body : ByteArray

def Fields.head (s : Fields) : List Int := hdr s.src s.dst s.seq s.ack s.fl s.bs.length s.win
def Fields.tail (s : Fields) : List Int := blk s.bs ++ bytesOf s.body
/-- The bytes with the checksum c. -/
def Fields.code (s : Fields) (c : List Int) : List Int := s.head ++ (c ++ s.tail)

theorem Fields.code_length (s : Fields) {c : List Int} (hc : c.length = 2) : (s.code c).length = 18 + 8 * s.bs.length + s.body.size := by
  unfold Fields.code Fields.head Fields.tail
  rw [List.length_append, List.length_append, List.length_append, hdr_length, hc, blk_length, bytesOf_length]
  omega

theorem Fields.code_bytes (s : Fields) {c : List Int} (hc : Bytes c) : Bytes (s.code c) :=
  bytes_append (hdr_bytes _ _ _ _ _ _ _) (bytes_append hc (bytes_append (blk_bytes _) (bl_range _)))

theorem bytes_f (s : Fields) {k : Nat} (hb : s.bs.length ≤ 3) (hs : s.body.size ≤ 1024) (hk : 10 ≤ k) :
    seg_bytes.f k s.src s.dst s.seq s.ack s.fl s.win s.bs s.body = some (s.code [0, 0]) := by
  unfold seg_bytes.f
  rw [two_f, Option.bind_some, two_f, Option.bind_some, if_pos (by simp [two]), Option.bind_some, four_f, Option.bind_some, if_pos (by simp [two, four]), Option.bind_some,
    four_f, Option.bind_some, if_pos (by simp [two, four]), Option.bind_some, Option.bind_some, if_pos (by simp [two, four]), Option.bind_some, two_f, Option.bind_some,
    if_pos (by simp [two, four]), Option.bind_some, Option.bind_some, if_pos (by simp [two, four])]
  have g := bytes_loop s.bs s.body (by omega) (by omega) s.src s.dst s.seq s.ack s.fl s.win s.bs.length k 0
    (two s.src ++ two s.dst ++ four s.seq ++ four s.ack ++ [s.fl % 256, (s.bs.length : Int) % 256] ++ two s.win ++ [0, 0]) (by omega) (by omega) (by omega) (by simp [two, four]; omega)
  have e0 : ((0 : Nat) : Int) = 0 := rfl
  rw [e0] at g
  rw [g, List.drop_zero]
  simp [Fields.code, Fields.head, Fields.tail, hdr]

/-! Check -/
theorem check_loop (bs : List S31) (hb : bs.length ≤ 1000000) : ∀ (r i : Nat), bs.length - i = r → i ≤ bs.length → ∃ e, ∀ k, r < k → seg_Check.l0 k bs bs.length i = some e := by
  intro r
  induction r with
  | zero =>
    intro i hr hi
    refine ⟨0, fun k hk => ?_⟩
    obtain ⟨k, rfl⟩ : ∃ m, k = m + 1 := ⟨k - 1, by omega⟩
    rw [seg_Check.l0, if_neg (by omega)]
  | succ r ih =>
    intro i hr hi
    obtain ⟨e, he⟩ := ih (i + 1) (by omega) (by omega)
    have hlt : i < bs.length := by omega
    by_cases c : wrap64 (wrap32 (((bs[i]).f1 - (bs[i]).f0) % 4294967296)) ≤ 0
    · refine ⟨10, fun k hk => ?_⟩
      obtain ⟨k, rfl⟩ : ∃ m, k = m + 1 := ⟨k - 1, by omega⟩
      rw [seg_Check.l0, if_pos (by omega), if_pos (by omega), if_pos (by omega), rd31 hlt]
      unfold seq_Diff.f
      rw [Option.bind_some, if_pos c]
    · refine ⟨e, fun k hk => ?_⟩
      obtain ⟨k, rfl⟩ : ∃ m, k = m + 1 := ⟨k - 1, by omega⟩
      rw [seg_Check.l0, if_pos (by omega), if_pos (by omega), if_pos (by omega), rd31 hlt]
      unfold seq_Diff.f
      rw [Option.bind_some, if_neg c, wrap64_in (by omega)]
      have g := he k (by omega)
      have e1 : ((i + 1 : Nat) : Int) = (i : Int) + 1 := by omega
      rw [e1] at g
      exact g

theorem in_f (n a b : Int) : seg_in.f n a b = some (decide (a ≤ n ∧ n ≤ b)) := by
  unfold seg_in.f
  by_cases h : n ≥ a
  · rw [if_pos h]
    congr 1
    rw [decide_eq_decide]
    omega
  · rw [if_neg h]
    congr 1
    symm
    rw [decide_eq_false_iff_not]
    omega

theorem flags_le {n : Int} (h0 : -9223372036854775808 ≤ n ∧ n ≤ 9223372036854775807) (h : Go.bits .andNot .i64 n 23 = 0) : 0 ≤ n ∧ n ≤ 23 := by
  have key : IntKind.i64.wrap ((BitVec.ofInt 64 n &&& ~~~ BitVec.ofInt 64 23).toNat : Nat) = 0 := h
  rw [IntKind.wrap_i64] at key
  generalize hx : BitVec.ofInt 64 n = x at key
  have hz : (x &&& ~~~ BitVec.ofInt 64 23).toNat = 0 := by
    have := (x &&& ~~~ BitVec.ofInt 64 23).isLt
    omega
  have hz2 : x &&& ~~~ BitVec.ofInt 64 23 = 0#64 := BitVec.eq_of_toNat_eq (by rw [hz]; rfl)
  have hx2 : x &&& BitVec.ofInt 64 23 = x := by
    ext i hi
    have hb := congrArg (fun y => y[i]) hz2
    simp only [BitVec.getElem_and, BitVec.getElem_not, BitVec.getElem_zero] at hb
    simp only [BitVec.getElem_and]
    cases h1 : x[i] <;> cases h2 : (BitVec.ofInt 64 23)[i] <;> simp_all
  have hle : x.toNat ≤ 23 := by
    rw [← hx2, BitVec.toNat_and]
    exact Nat.le_trans Nat.and_le_right (by decide)
  rw [← hx, BitVec.toNat_ofInt] at hle
  omega

/-- What Check tells: an error, always the same; and if it is none, then the fields are in their ranges. -/
theorem check_f (s : Fields) (hfl : -9223372036854775808 ≤ s.fl ∧ s.fl ≤ 9223372036854775807) :
    ∃ e, (∀ k, 10 ≤ k → seg_Check.f k s.src s.dst s.seq s.ack s.fl s.win s.bs s.body = some e) ∧
      (e = 0 → 0 ≤ s.src ∧ s.src ≤ 65535 ∧ 0 ≤ s.dst ∧ s.dst ≤ 65535 ∧ 0 ≤ s.fl ∧ s.fl ≤ 23 ∧ 0 ≤ s.win ∧ s.win ≤ 65535 ∧ s.bs.length ≤ 3 ∧ s.body.size ≤ 1024) := by
  have one : ∀ k, 10 ≤ k → seg_Check.j0 k true s.src s.dst s.seq s.ack s.fl s.win s.bs s.body = some 1 := by
    intro k hk
    obtain ⟨k, rfl⟩ : ∃ m, k = m + 1 := ⟨k - 1, by omega⟩
    rw [seg_Check.j0, if_pos rfl]
  by_cases c1 : 0 ≤ s.src ∧ s.src ≤ 65535
  · by_cases c2 : 0 ≤ s.dst ∧ s.dst ≤ 65535
    · by_cases c3 : Go.bits .andNot .i64 s.fl 23 = 0
      · by_cases c4 : 0 ≤ s.win ∧ s.win ≤ 65535
        · by_cases c5 : (s.bs.length : Int) > 3
          · refine ⟨2, fun k hk => ?_, fun h => by simp at h⟩
            obtain ⟨k, rfl⟩ : ∃ m, k = m + 2 := ⟨k - 2, by omega⟩
            unfold seg_Check.f
            rw [in_f, decide_eq_true c1, Option.bind_some, if_pos rfl, in_f, decide_eq_true c2, Option.bind_some, if_pos rfl, if_pos c3, in_f, decide_eq_true c4, Option.bind_some,
              seg_Check.j0, if_neg (by simp), if_pos c5, seg_Check.j1, if_pos rfl]
          · by_cases c6 : (s.body.size : Int) > 1024
            · refine ⟨2, fun k hk => ?_, fun h => by simp at h⟩
              obtain ⟨k, rfl⟩ : ∃ m, k = m + 2 := ⟨k - 2, by omega⟩
              unfold seg_Check.f
              rw [in_f, decide_eq_true c1, Option.bind_some, if_pos rfl, in_f, decide_eq_true c2, Option.bind_some, if_pos rfl, if_pos c3, in_f, decide_eq_true c4, Option.bind_some,
                seg_Check.j0, if_neg (by simp), if_neg c5, decide_eq_true c6, seg_Check.j1, if_pos rfl]
            · obtain ⟨e, he⟩ := check_loop s.bs (by omega) s.bs.length 0 (by omega) (by omega)
              refine ⟨e, fun k hk => ?_, fun _ => ⟨c1.1, c1.2, c2.1, c2.2, (flags_le hfl c3).1, (flags_le hfl c3).2, c4.1, c4.2, by omega, by omega⟩⟩
              obtain ⟨k, rfl⟩ : ∃ m, k = m + 2 := ⟨k - 2, by omega⟩
              unfold seg_Check.f
              rw [in_f, decide_eq_true c1, Option.bind_some, if_pos rfl, in_f, decide_eq_true c2, Option.bind_some, if_pos rfl, if_pos c3, in_f, decide_eq_true c4, Option.bind_some,
                seg_Check.j0, if_neg (by simp), if_neg c5, decide_eq_false c6, seg_Check.j1, if_neg (by simp)]
              exact he k (by omega)
        · refine ⟨1, fun k hk => ?_, fun h => by simp at h⟩
          unfold seg_Check.f
          rw [in_f, decide_eq_true c1, Option.bind_some, if_pos rfl, in_f, decide_eq_true c2, Option.bind_some, if_pos rfl, if_pos c3, in_f, decide_eq_false c4, Option.bind_some]
          exact one k hk
      · refine ⟨1, fun k hk => ?_, fun h => by simp at h⟩
        unfold seg_Check.f
        rw [in_f, decide_eq_true c1, Option.bind_some, if_pos rfl, in_f, decide_eq_true c2, Option.bind_some, if_pos rfl, if_neg c3]
        exact one k hk
    · refine ⟨1, fun k hk => ?_, fun h => by simp at h⟩
      unfold seg_Check.f
      rw [in_f, decide_eq_true c1, Option.bind_some, if_pos rfl, in_f, decide_eq_false c2, Option.bind_some, if_neg (by simp)]
      exact one k hk
  · refine ⟨1, fun k hk => ?_, fun h => by simp at h⟩
    unfold seg_Check.f
    rw [in_f, decide_eq_false c1, Option.bind_some, if_neg (by simp)]
    exact one k hk

/-- The checksum of a segment from a to b. -/
def Fields.sum (s : Fields) (a b : Int) : Int := stamp a b (s.code [0, 0])

/-- What Encode answers. -/
theorem encode_f (s : Fields) (a b : Int) (hfl : -9223372036854775808 ≤ s.fl ∧ s.fl ≤ 9223372036854775807) :
    (∃ e, e ≠ 0 ∧ ∀ k, 5000 ≤ k → seg_Encode.f k a b s.src s.dst s.seq s.ack s.fl s.win s.bs s.body = some (⟨#[]⟩, e)) ∨
    ((∀ k, 5000 ≤ k → seg_Encode.f k a b s.src s.dst s.seq s.ack s.fl s.win s.bs s.body = some (strOfNums (s.code (two (s.sum a b))), 0)) ∧
      (∀ k, 10 ≤ k → seg_Check.f k s.src s.dst s.seq s.ack s.fl s.win s.bs s.body = some 0) ∧
      0 ≤ s.src ∧ s.src ≤ 65535 ∧ 0 ≤ s.dst ∧ s.dst ≤ 65535 ∧ 0 ≤ s.fl ∧ s.fl ≤ 23 ∧ 0 ≤ s.win ∧ s.win ≤ 65535 ∧ s.bs.length ≤ 3 ∧ s.body.size ≤ 1024) := by
  obtain ⟨e, he, hz⟩ := check_f s hfl
  by_cases c : e = 0
  · subst c
    refine .inr ⟨fun k hk => ?_, he, hz rfl⟩
    obtain ⟨_, _, _, _, _, _, _, _, h9, h10⟩ := hz rfl
    have hl : (s.code [0, 0]).length = 18 + 8 * s.bs.length + s.body.size := s.code_length rfl
    have hz2 : Bytes [0, 0] := bytes_cons (by omega) (bytes_cons (by omega) bytes_nil)
    have hstr : (strOfNums (s.code [0, 0])).size = (s.code [0, 0]).length := strOfNums_size _
    unfold seg_Encode.f
    rw [he k (by omega), Option.bind_some, if_pos rfl, bytes_f s h9 h10 (by omega), Option.bind_some, sealed_f (by omega) (by omega), Option.bind_some, if_pos (by omega), if_pos (by omega),
      bl_str _ (s.code_bytes hz2)]
    rfl
  · refine .inl ⟨e, c, fun k hk => ?_⟩
    unfold seg_Encode.f
    rw [he k (by omega), Option.bind_some, if_neg c]

/-! The readers -/
theorem drop_at {l : List Int} {p : Nat} {x : Int} {r : List Int} (h : l.drop p = x :: r) : p < l.length ∧ rd l p = x := by
  have hp : p < l.length := by
    rcases Nat.lt_or_ge p l.length with g | g
    · exact g
    · rw [List.drop_eq_nil_of_le g] at h; cases h
  refine ⟨hp, ?_⟩
  rw [List.drop_eq_getElem_cons hp] at h
  unfold rd
  simp [hp]
  exact (List.cons.inj h).1

theorem drop_next {l : List Int} {p : Nat} {x : Int} {r : List Int} (h : l.drop p = x :: r) : l.drop (p + 1) = r := by
  rw [Nat.add_comm, Nat.add_comm 1 p, ← List.drop_drop, h]
  rfl

theorem or_join {x y : Int} (hx : 0 ≤ x ∧ x < 256) (hy : 0 ≤ y ∧ y < 256) : Go.bits .or .i64 (x * 256) y = x * 256 + y :=
  bits_join .i64 63 (by decide) (fun n a b => by rw [IntKind.wrap_i64]; omega) 8 (x * 256) y (by omega) (by omega) (by omega) hy.1 (by omega) (by omega)

theorem word_f {s : ByteArray} {p : Nat} {v : Int} {r : List Int} (hs : s.size ≤ 100000) (hv : 0 ≤ v ∧ v < 65536) (h : (bytesOf s).drop p = two v ++ r) : seg_word.f s p = some v := by
  obtain ⟨h1, h2⟩ := drop_at (x := v / 256 % 256) h
  obtain ⟨h3, h4⟩ := drop_at (x := v % 256) (drop_next (x := v / 256 % 256) h)
  rw [bytesOf_length] at h1 h3
  unfold seg_word.f
  have e : wrap64 ((p : Int) + 1) = ((p + 1 : Nat) : Int) := by rw [wrap64_in (by omega)]; omega
  rw [if_pos (by omega), if_pos (by omega), e, if_pos (by omega), if_pos (by omega), ← rd_bytesOf, ← rd_bytesOf, h2, h4, wrap64_in (n := v / 256 % 256) (by omega), wrap64_in (n := v / 256 % 256 * 256) (by omega),
    wrap64_in (n := v % 256) (by omega), or_join (by omega) (by omega)]
  congr 1
  omega

theorem long_f {s : ByteArray} {p : Nat} {v : Int} {r : List Int} (hs : s.size ≤ 100000) (hv : 0 ≤ v ∧ v < 4294967296) (h : (bytesOf s).drop p = four v ++ r) : seg_long.f s p = some v := by
  have e1 : four v = two (v / 65536) ++ two (v % 65536) := by
    unfold four two
    simp
    omega
  have h1 : (bytesOf s).drop p = two (v / 65536) ++ (two (v % 65536) ++ r) := by rw [h, e1, List.append_assoc]
  have h2 : (bytesOf s).drop (p + 2) = two (v % 65536) ++ r := by
    rw [← List.drop_drop, h1]
    rfl
  have hp := (drop_at (x := v % 65536 / 256 % 256) h2).1
  rw [bytesOf_length] at hp
  unfold seg_long.f
  have e : wrap64 ((p : Int) + 2) = ((p + 2 : Nat) : Int) := by rw [wrap64_in (by omega)]; omega
  rw [word_f hs (by omega) h1, Option.bind_some, e, word_f hs (by omega) h2, Option.bind_some]
  congr 1
  have e2 : v / 65536 % 4294967296 * 65536 % 4294967296 = v / 65536 * 65536 := by omega
  have e3 : v % 65536 % 4294967296 = v % 65536 := by omega
  rw [e2, e3, bits_join .u32 32 (by decide) (fun n a b => by rw [IntKind.wrap_u32]; omega) 16 _ _ (by omega) (by omega) (by omega) (by omega) (by omega) (by omega)]
  omega

/-- Where the checksum is another one, Decode says so. -/
theorem decode_bad {s : ByteArray} {k : Nat} {a b v : Int} {r : List Int} (hs : s.size ≤ 10000) (hk : 11000 ≤ k) (hv : 0 ≤ v ∧ v < 65536) (h : (bytesOf s).drop 16 = two v ++ r)
    (hne : v ≠ stamp a b ((bytesOf s).take 16 ++ ([0, 0] ++ (bytesOf s).drop 18))) :
    seg_Decode.f k a b s = some (0, 0, 0, 0, 0, 0, [], ⟨#[]⟩, 8) := by
  have h17 := (drop_at (x := v % 256) (drop_next (x := v / 256 % 256) h)).1
  have hlen := bytesOf_length s
  rw [hlen] at h17
  have e1 : (s.extract 0 16 ++ (⟨#[0, 0]⟩ : ByteArray)).size = 18 := by
    rw [ByteArray.size_append, ByteArray.size_extract]
    have e_ : (⟨#[0, 0]⟩ : ByteArray).size = 2 := rfl
    omega
  have e2 : (s.extract 0 16).size = 16 := by rw [ByteArray.size_extract]; omega
  have e3 : (s.extract 18 s.size).size = s.size - 18 := by rw [ByteArray.size_extract]; omega
  have e4 : bytesOf (s.extract 0 16 ++ (⟨#[0, 0]⟩ : ByteArray) ++ s.extract 18 s.size) = (bytesOf s).take 16 ++ ([0, 0] ++ (bytesOf s).drop 18) := by
    rw [bl_append, bl_append, bl_extract, bl_extract, List.drop_zero, ← hlen, List.take_length, List.append_assoc]
    rfl
  have w := word_f (p := 16) (by omega) hv h
  have e16 : ((16 : Nat) : Int) = 16 := rfl
  rw [e16] at w
  unfold seg_Decode.f
  rw [if_neg (by omega), w, Option.bind_some, if_pos (by omega), if_pos (by omega), e2, if_pos (by omega), if_pos (by omega), e1, e3, if_pos (by omega),
    sealed_f (by rw [ByteArray.size_append, e1, e3]; omega) (by rw [ByteArray.size_append, e1, e3]; omega), Option.bind_some, e4, if_neg hne]

/-! Congruence modulo 65535 -/
theorem fold_ne {x y : Int} (hx : 0 < x) (hy : 0 < y) (h : (x - y) % 65535 ≠ 0) : fold x ≠ fold y := by
  unfold fold
  rw [if_neg (by omega), if_neg (by omega)]
  omega

theorem wsum_four (x : Int) (hx : 0 ≤ x ∧ x < 4294967296) : ∃ q, wsum true (four x) = x - 65535 * q := by
  refine ⟨x / 65536, ?_⟩
  simp only [four, wsum]
  omega

theorem wsum_six {l r : List Int} (hl : Bytes l) (hr : Bytes r) (n : Int) (he : l.length % 2 = 0) : 0 < wsum true (l ++ ([0, 6] ++ (two n ++ r))) := by
  have h1 := wsum_bd l true hl
  have h2 := wsum_bd (two n ++ r) true (bytes_append (two_bytes n) hr)
  rw [wsum_even _ he, wsum_even (a := [0, 6]) _ rfl]
  have e : wsum true [0, 6] = 6 := by decide
  omega

theorem front_pos {a b n : Int} {r : List Int} (hr : Bytes r) : 0 < wsum true (front a b n ++ r) := by
  have h := wsum_six (l := four a ++ four b) (r := r) (bytes_append (four_bytes a) (four_bytes b)) hr n (by simp [four])
  have e : front a b n ++ r = four a ++ four b ++ ([0, 6] ++ (two n ++ r)) := by simp [front]
  rw [e]
  exact h

end Go.Proofs.Ytlcccmaolbjcfaa.Seg
