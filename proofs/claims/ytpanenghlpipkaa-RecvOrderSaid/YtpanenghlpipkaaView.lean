/- The receive buffer as a plain function from places to bytes. -/
import Derived.Test.YtpanenghlpipkaaGaps
namespace Go.Proofs.Ytpanenghlpipkaa.Recv
open Go.RowKit
set_option linter.unusedVariables false
set_option linter.unusedSimpArgs false

/-- The byte at place k of the queues, if it is there. -/
def qget (q : Qs) (k : Nat) : Option Int := if q.2.1.getD k false = true then some (q.1.getD k 0) else none

theorem pad_getD {α : Type} (d : α) (n : Nat) (l : List α) (k : Nat) : (pad d n l).getD k d = l.getD k d := by
  unfold pad
  rw [List.getD_eq_getElem?_getD, List.getD_eq_getElem?_getD, List.getElem?_append]
  split
  · rfl
  · rename_i h
    rw [List.getElem?_eq_none (l := l) (by omega), List.getElem?_replicate]
    split <;> rfl

theorem set_getD {α : Type} (l : List α) (i k : Nat) (x d : α) (hi : i < l.length) : (l.set i x).getD k d = if k = i then x else l.getD k d := by
  rw [List.getD_eq_getElem?_getD, List.getD_eq_getElem?_getD, List.getElem?_set]
  by_cases h : i = k
  · subst h; simp [hi]
  · rw [if_neg h, if_neg (fun e => h e.symm)]

theorem qget_pad (n : Nat) (q : Qs) (k : Nat) (m : Nat) : qget (pad 0 n q.1, pad false n q.2.1, m) k = qget q k := by
  unfold qget
  simp only [pad_getD]

theorem qget_store1 {W p c : Int} {q : Qs} (h : Fits W q) (k : Nat) :
    qget (store1 W p c q) k = match qget q k with | some x => some x | none => if (k : Int) = p ∧ p < W then some c else none := by
  unfold store1
  split
  · rename_i hp
    cases hq : qget q k with
    | some x => rfl
    | none => rw [if_neg (by omega)]
  · rename_i hp
    have hl := pad_length false (p.toNat + 1) q.2.1
    have hl0 := pad_length (0 : Int) (p.toNat + 1) q.1
    split
    · rename_i ht
      rw [qget_pad]
      cases hq : qget q k with
      | some x => rfl
      | none =>
        rw [if_neg]
        rintro ⟨e, _⟩
        obtain rfl : k = p.toNat := by omega
        unfold qget at hq
        rw [pad_getD] at ht
        rw [if_pos ht] at hq
        cases hq
    · rename_i ht
      rw [pad_getD] at ht
      unfold qget
      simp only
      rw [set_getD _ _ _ _ _ (by omega), set_getD _ _ _ _ _ (by omega), pad_getD, pad_getD]
      by_cases hk : k = p.toNat
      · subst hk
        rw [if_pos rfl, if_pos rfl, if_pos rfl, if_neg ht]
        simp only
        rw [if_pos (by omega)]
      · rw [if_neg hk, if_neg hk]
        split
        · rfl
        · rename_i hn
          simp only
          rw [if_neg (by omega)]

theorem qget_storeAll {W : Int} : ∀ (cs : List Int) (p : Int) (q : Qs), Fits W q → ∀ k : Nat,
    qget (storeAll W p cs q) k = match qget q k with | some x => some x | none => if p ≤ (k : Int) ∧ (k : Int) < p + cs.length ∧ (k : Int) < W then some (cs.getD ((k : Int) - p).toNat 0) else none := by
  intro cs
  induction cs with
  | nil =>
    intro p q h k
    rw [storeAll]
    cases qget q k with
    | some x => rfl
    | none => simp only [List.length_nil]; rw [if_neg (by omega)]
  | cons c cs ih =>
    intro p q h k
    rw [storeAll, ih _ _ h.store1, qget_store1 h]
    cases qget q k with
    | some x => rfl
    | none =>
      simp only [List.length_cons]
      by_cases e : (k : Int) = p ∧ p < W
      · rw [if_pos e]
        show some c = _
        rw [if_pos (by omega), show ((k : Int) - p).toNat = 0 by omega]
        rfl
      · rw [if_neg e]
        show (if p + 1 ≤ (k : Int) ∧ (k : Int) < p + 1 + cs.length ∧ (k : Int) < W then some (cs.getD ((k : Int) - (p + 1)).toNat 0) else none) = _
        by_cases e2 : p + 1 ≤ (k : Int) ∧ (k : Int) < p + 1 + cs.length ∧ (k : Int) < W
        · rw [if_pos e2, if_pos (by omega)]
          have : ((k : Int) - p).toNat = ((k : Int) - (p + 1)).toNat + 1 := by omega
          rw [this]
          rfl
        · rw [if_neg e2, if_neg (by omega)]

/-- How many bytes are stored: none, if all are there; all, if none is. -/
theorem many_none {W : Int} : ∀ (cs : List Int) (p : Int) (q : Qs), Fits W q → (∀ k : Nat, p ≤ (k : Int) → (k : Int) < p + cs.length → (k : Int) < W → (qget q k).isSome = true) → (storeAll W p cs q).2.2 = q.2.2 := by
  intro cs
  induction cs with
  | nil => intro p q h _; rfl
  | cons c cs ih =>
    intro p q h ha
    rw [storeAll, ih _ _ h.store1]
    · unfold store1
      split
      · rfl
      · rename_i hp
        have h1 := ha p.toNat (by omega) (by simp only [List.length_cons]; omega) (by omega)
        have h2 : q.2.1.getD p.toNat false = true := by
          unfold qget at h1
          split at h1
          · assumption
          · cases h1
        rw [pad_getD, if_pos h2]
    · intro k h1 h2 h3
      rw [qget_store1 h]
      have h4 := ha k (by omega) (by simp only [List.length_cons]; omega) h3
      cases hq : qget q k with
      | some x => rfl
      | none => rw [hq] at h4; cases h4
theorem many_all {W : Int} : ∀ (cs : List Int) (p : Int) (q : Qs), Fits W q → 0 ≤ p → p + cs.length ≤ W → (∀ k : Nat, p ≤ (k : Int) → (k : Int) < p + cs.length → qget q k = none) → (storeAll W p cs q).2.2 = q.2.2 + cs.length := by
  intro cs
  induction cs with
  | nil => intro p q h _ _ _; rfl
  | cons c cs ih =>
    intro p q h h0 hW ha
    simp only [List.length_cons] at hW ha ⊢
    rw [storeAll, ih _ _ h.store1 (by omega) (by omega)]
    · unfold store1
      rw [if_neg (by omega)]
      have h1 := ha p.toNat (by omega) (by omega)
      have h2 : ¬ q.2.1.getD p.toNat false = true := by
        intro h2
        unfold qget at h1
        rw [if_pos h2] at h1
        cases h1
      rw [pad_getD, if_neg h2]
      simp only
      omega
    · intro k h1 h2
      rw [qget_store1 h, ha k (by omega) (by omega)]
      simp only
      rw [if_neg (by omega)]

/-- The last mark, if there is one, is true. -/
def Trim (t : List Bool) : Prop := t = [] ∨ t.getD (t.length - 1) false = true
theorem Trim.store1 {W p c : Int} {q : Qs} (h : Fits W q) (ht : Trim q.2.1) : Trim (store1 W p c q).2.1 := by
  unfold Recv.store1
  split
  · exact ht
  · have hl := pad_length false (p.toNat + 1) q.2.1
    split
    · rename_i hp
      rw [pad_getD] at hp
      have hlt : p.toNat < q.2.1.length := by
        apply Classical.byContradiction
        intro hn
        rw [List.getD_eq_getElem?_getD, List.getElem?_eq_none (by omega)] at hp
        exact absurd hp (by decide)
      simp only
      rw [pad_long _ _ _ (by omega)]
      exact ht
    · right
      simp only
      rw [List.length_set, set_getD _ p.toNat _ _ _ (by omega), pad_getD]
      split
      · rfl
      · rcases ht with ht | ht
        · have h0 : q.2.1.length = 0 := by rw [ht]; rfl
          omega
        · rw [show (pad false (p.toNat + 1) q.2.1).length - 1 = q.2.1.length - 1 by omega]
          exact ht
theorem Trim.storeAll {W : Int} : ∀ (cs : List Int) (p : Int) (q : Qs), Fits W q → Trim q.2.1 → Trim (storeAll W p cs q).2.1 := by
  intro cs
  induction cs with
  | nil => intro p q _ h; exact h
  | cons c cs ih => intro p q h ht; exact ih _ _ h.store1 (ht.store1 h)
theorem Trim.drop {t : List Bool} (h : Trim t) (n : Nat) : Trim (t.drop n) := by
  by_cases hn : t.length ≤ n
  · left; exact List.drop_eq_nil_of_le hn
  · right
    rcases h with h | h
    · rw [h] at hn; simp at hn
    · rw [List.length_drop, ← getD_drop, show n + (t.length - n - 1) = t.length - 1 by omega]
      exact h
theorem Trim.ext {t1 t2 : List Bool} (h1 : Trim t1) (h2 : Trim t2) (h : ∀ k, t1.getD k false = t2.getD k false) : t1 = t2 := by
  have key : ∀ {a b : List Bool}, Trim a → (∀ k, a.getD k false = b.getD k false) → a.length ≤ b.length := by
    intro a b ha hab
    rcases ha with ha | ha
    · rw [ha]; exact Nat.zero_le _
    · apply Classical.byContradiction
      intro hn
      rw [hab, List.getD_eq_getElem?_getD, List.getElem?_eq_none (by omega)] at ha
      exact absurd ha (by decide)
  have hl : t1.length = t2.length := Nat.le_antisymm (key h1 h) (key h2 (fun k => (h k).symm))
  refine List.ext_getElem hl (fun i hi hj => ?_)
  have hk := h i
  rw [List.getD_eq_getElem?_getD, List.getD_eq_getElem?_getD, List.getElem?_eq_getElem hi, List.getElem?_eq_getElem hj] at hk
  exact hk

/-- What a buffer that nobody has read from holds at the place k behind the first number. -/
def RB.at (b : RB) (k : Nat) : Option Int := if k < b.ready.length then some (b.ready.getD k 0) else qget (b.data, b.there, 0) (k - b.ready.length)
/-- A buffer that began at the number first, and that nobody has read from. -/
structure RB.Inv (first : Int) (b : RB) : Prop where
  ok : b.Ok
  gap : lead b.there = 0
  next : b.next = addq first (b.ready.length : Int)
  trim : Trim b.there

theorem inv_new (first room : Int) (hf : 0 ≤ first ∧ first ≤ 4294967295) (h1 : 1 ≤ room) (h2 : room ≤ 65535) : RB.Inv first ⟨first, room, [], [], []⟩ where
  ok := ok_new first room h1 h2
  gap := rfl
  next := by simp only [addq, List.length_nil]; omega
  trim := .inl rfl
theorem at_new (first room : Int) (k : Nat) : RB.at ⟨first, room, [], [], []⟩ k = none := by simp [RB.at, qget]

theorem RB.Inv.put {first : Int} {b : RB} (h : b.Inv first) (x : Int) (s : ByteArray) : (b.put x s).Inv first where
  ok := h.ok.put x s
  gap := RB.gap_put h.gap x s
  next := by
    have hs := (h.ok.stored x s).1
    have hl := lead_le (b.stored x s).2.1
    unfold RB.put
    split
    · exact h.next
    · simp only [List.length_append, List.length_take, h.next, addq]
      rw [Nat.min_eq_left (by omega)]
      omega
  trim := by
    unfold RB.put
    split
    · exact h.trim
    · exact Trim.drop (Trim.storeAll _ _ _ h.ok.fits h.trim) _

/-- What In changes. -/
theorem RB.Inv.at_put {first : Int} {b : RB} (h : b.Inv first) (x : Int) (s : ByteArray) (hs : s.size ≤ 4096) (k : Nat) :
    (b.put x s).at k = match b.at k with | some c => some c | none => if (b.ready.length : Int) + dif x b.next ≤ (k : Int) ∧ (k : Int) < b.ready.length + dif x b.next + s.size ∧ (k : Int) < b.room then some ((bytesOf s).getD ((k : Int) - (b.ready.length + dif x b.next)).toNat 0) else none := by
  have hf := h.ok.stored x s
  have hl := lead_le (b.stored x s).2.1
  have hg : ∀ j : Nat, qget (b.stored x s) j = _ := fun j => qget_storeAll (bytesOf s) (dif x b.next) (b.data, b.there, 0) h.ok.fits j
  rw [bytesOf_length] at hg
  unfold RB.put
  rw [if_neg (by omega)]
  unfold RB.at
  simp only [List.length_append, List.length_take]
  rw [Nat.min_eq_left (by have := hf.1; omega)]
  by_cases h1 : k < b.ready.length
  · rw [if_pos (by omega), if_pos h1]
    simp only
    rw [List.getD_eq_getElem?_getD, List.getElem?_append_left h1, List.getD_eq_getElem?_getD]
  · rw [if_neg h1]
    have hgk := hg (k - b.ready.length)
    have e1 : ((k - b.ready.length : Nat) : Int) = (k : Int) - b.ready.length := by omega
    rw [e1] at hgk
    have e2 : (k : Int) - ↑b.ready.length - dif x b.next = (k : Int) - (↑b.ready.length + dif x b.next) := by omega
    rw [e2] at hgk
    have e3 : (dif x b.next ≤ (k : Int) - b.ready.length ∧ (k : Int) - b.ready.length < dif x b.next + s.size ∧ (k : Int) - b.ready.length < b.room - b.ready.length) = ((b.ready.length : Int) + dif x b.next ≤ (k : Int) ∧ (k : Int) < b.ready.length + dif x b.next + s.size ∧ (k : Int) < b.room) := by
      apply propext; omega
    simp only [e3] at hgk
    rw [← hgk]
    by_cases h2 : k < b.ready.length + lead (b.stored x s).2.1
    · rw [if_pos h2]
      have ht := lead_true (b.stored x s).2.1 (k - b.ready.length) (by omega)
      unfold qget
      rw [if_pos ht]
      congr 1
      rw [List.getD_eq_getElem?_getD, List.getElem?_append_right (by omega), List.getElem?_take, if_pos (by omega), List.getD_eq_getElem?_getD]
    · rw [if_neg h2]
      unfold qget
      simp only
      rw [← getD_drop, show lead (b.stored x s).2.1 + (k - (b.ready.length + lead (b.stored x s).2.1)) = k - b.ready.length by omega]
      congr 2
      rw [List.getD_eq_getElem?_getD, List.getElem?_drop, List.getD_eq_getElem?_getD, show lead (b.stored x s).2.1 + (k - (b.ready.length + lead (b.stored x s).2.1)) = k - b.ready.length by omega]

theorem RB.Inv.at_lt {first : Int} {b : RB} (h : b.Inv first) (k : Nat) (hk : k < b.ready.length) : b.at k = some (b.ready.getD k 0) := by unfold RB.at; rw [if_pos hk]
theorem RB.Inv.at_gap {first : Int} {b : RB} (h : b.Inv first) : b.at b.ready.length = none := by
  unfold RB.at qget
  rw [if_neg (by omega), Nat.sub_self, if_neg]
  simp only
  rw [lead_zero h.gap]
  decide
/-- The first place that holds nothing is where the ready bytes end. -/
theorem RB.Inv.ready_eq {first : Int} {b : RB} (h : b.Inv first) (n : Nat) (h1 : ∀ k, k < n → (b.at k).isSome = true) (h2 : b.at n = none) : b.ready.length = n := by
  rcases Nat.lt_trichotomy b.ready.length n with h3 | h3 | h3
  · have := h1 _ h3
    rw [h.at_gap] at this
    cases this
  · exact h3
  · rw [h.at_lt n h3] at h2
    cases h2
theorem RB.Inv.many_none {first : Int} {b : RB} (h : b.Inv first) (x : Int) (s : ByteArray) (ha : ∀ k : Nat, (b.ready.length : Int) + dif x b.next ≤ (k : Int) → (k : Int) < b.ready.length + dif x b.next + s.size → (b.at k).isSome = true) : b.many x s = 0 := by
  unfold RB.many
  split
  · rfl
  · unfold RB.stored
    rw [Recv.many_none _ _ _ h.ok.fits]
    · rfl
    · intro k h1 h2 h3
      rw [bytesOf_length] at h2
      have h4 := ha (k + b.ready.length) (by omega) (by omega)
      unfold RB.at at h4
      rw [if_neg (by omega), Nat.add_sub_cancel] at h4
      exact h4
theorem RB.Inv.many_all {first : Int} {b : RB} (h : b.Inv first) (x : Int) (s : ByteArray) (hs : s.size ≤ 4096) (h0 : 0 ≤ dif x b.next) (hW : b.ready.length + dif x b.next + s.size ≤ b.room) (ha : ∀ k : Nat, (b.ready.length : Int) + dif x b.next ≤ (k : Int) → (k : Int) < b.ready.length + dif x b.next + s.size → b.at k = none) : b.many x s = s.size := by
  unfold RB.many
  rw [if_neg (by omega)]
  unfold RB.stored
  rw [Recv.many_all _ _ _ h.ok.fits h0 (by rw [bytesOf_length]; omega)]
  · rw [bytesOf_length]; simp
  · intro k h1 h2
    rw [bytesOf_length] at h2
    have h4 := ha (k + b.ready.length) (by omega) (by omega)
    unfold RB.at at h4
    rw [if_neg (by omega), Nat.add_sub_cancel] at h4
    exact h4

/-- Two buffers that hold the same at each place. -/
theorem RB.Inv.same {first : Int} {a b : RB} (ha : a.Inv first) (hb : b.Inv first) (h : ∀ k, a.at k = b.at k) : a.ready = b.ready ∧ a.next = b.next ∧ a.there = b.there := by
  have hl : a.ready.length = b.ready.length := ha.ready_eq _ (fun k hk => by rw [h, hb.at_lt k hk]; rfl) (by rw [h]; exact hb.at_gap)
  refine ⟨List.ext_getElem hl (fun i hi hj => ?_), by rw [ha.next, hb.next, hl], ha.trim.ext hb.trim (fun k => ?_)⟩
  · have h1 := h i
    rw [ha.at_lt i hi, hb.at_lt i hj] at h1
    have h2 := Option.some.inj h1
    rw [List.getD_eq_getElem?_getD, List.getD_eq_getElem?_getD, List.getElem?_eq_getElem hi, List.getElem?_eq_getElem hj] at h2
    exact h2
  · have h1 := h (a.ready.length + k)
    unfold RB.at at h1
    rw [if_neg (by omega), if_neg (by omega), ← hl, Nat.add_sub_cancel_left] at h1
    unfold qget at h1
    simp only at h1
    cases h2 : a.there.getD k false <;> cases h3 : b.there.getD k false <;> rw [h2, h3] at h1 <;> first | rfl | cases h1

theorem bytesOf_getD (s : ByteArray) (i : Nat) (hi : i < s.size) : (bytesOf s).getD i 0 = (s[i].toNat : Int) := by
  have h1 : i < (bytesOf s).length := by rw [bytesOf_length]; exact hi
  rw [List.getD_eq_getElem?_getD, List.getElem?_eq_getElem h1]
  simp only [bytesOf, List.getElem_map, Option.getD_some]
  rfl
theorem RB.put_room (b : RB) (x : Int) (s : ByteArray) : (b.put x s).room = b.room := by unfold RB.put; split <;> rfl
theorem RB.Inv.ready_is {first : Int} {b : RB} (h : b.Inv first) (L : List Int) (h1 : ∀ k, k < L.length → b.at k = some (L.getD k 0)) (h2 : b.at L.length = none) : b.ready = L := by
  have hl := h.ready_eq L.length (fun k hk => by rw [h1 k hk]; rfl) h2
  refine List.ext_getElem hl (fun i hi hj => ?_)
  have h3 := h1 i hj
  rw [h.at_lt i hi] at h3
  have h4 := Option.some.inj h3
  rw [List.getD_eq_getElem?_getD, List.getD_eq_getElem?_getD, List.getElem?_eq_getElem hi, List.getElem?_eq_getElem hj] at h4
  exact h4
theorem bytesOf_back (s : ByteArray) : strOfNums (bytesOf s) = s := by
  apply ByteArray.ext
  apply Array.toList_inj.1
  simp only [strOfNums, bytesOf, List.map_map]
  rw [show ((fun n : Int => UInt8.ofNat n.toNat) ∘ fun b : UInt8 => (b.toNat : Int)) = id by funext b; simp, List.map_id]
theorem strOfNums_take (s : ByteArray) (n : Nat) : strOfNums ((bytesOf s).take n) = s.extract 0 n := by
  conv => rhs; rw [← bytesOf_back s]
  apply ByteArray.ext
  apply Array.toList_inj.1
  simp [strOfNums, ByteArray.data_extract, List.map_take, List.take_take]
theorem strOfNums_tail (a : List Int) (s : ByteArray) : (strOfNums (a ++ bytesOf s)).extract a.length (strOfNums (a ++ bytesOf s)).size = s := by
  conv => rhs; rw [← bytesOf_back s]
  apply ByteArray.ext
  apply Array.toList_inj.1
  simp [strOfNums, ByteArray.data_extract, ByteArray.size]
  exact List.take_of_length_le (by simp)
theorem dif_two (first : Int) (i j : Nat) (hi : i < 1000000) (hj : j < 1000000) : dif (addq first (i : Int)) (addq first (j : Int)) = (i : Int) - j := by
  simp only [dif, addq, wrap64, wrap32]
  omega
theorem addq_zero {first : Int} (h : 0 ≤ first ∧ first ≤ 4294967295) : addq first ((0 : Nat) : Int) = first := by simp only [addq]; omega
theorem RB.Inv.short {first : Int} {b : RB} (h : b.Inv first) : b.ready.length ≤ 65535 := by have := RB.ready_le h.ok; omega

/-- The same, at the number i behind the first. -/
theorem RB.Inv.at_puts {first : Int} {b : RB} (h : b.Inv first) (i : Nat) (hi : i < 100000) (s : ByteArray) (hs : s.size ≤ 4096) (k : Nat) :
    (b.put (addq first (i : Int)) s).at k = match b.at k with | some c => some c | none => if i ≤ k ∧ k < i + s.size ∧ (k : Int) < b.room then some ((bytesOf s).getD (k - i) 0) else none := by
  rw [h.at_put _ _ hs k, h.next, dif_two first i _ (by omega) (by have := h.short; omega)]
  cases b.at k with
  | some c => rfl
  | none =>
    simp only
    by_cases e : i ≤ k ∧ k < i + s.size ∧ (k : Int) < b.room
    · rw [if_pos (by omega), if_pos e, show ((k : Int) - (↑b.ready.length + (↑i - ↑b.ready.length))).toNat = k - i by omega]
    · rw [if_neg (by omega), if_neg e]
theorem RB.Inv.no_more {first : Int} {b : RB} (h : b.Inv first) (i : Nat) (hi : i < 100000) (s : ByteArray) (ha : ∀ k : Nat, i ≤ k → k < i + s.size → (b.at k).isSome = true) : b.many (addq first (i : Int)) s = 0 := by
  refine h.many_none _ _ (fun k h1 h2 => ?_)
  rw [h.next, dif_two first i _ (by omega) (by have := h.short; omega)] at h1 h2
  exact ha k (by omega) (by omega)
theorem RB.Inv.all_new {first : Int} {b : RB} (h : b.Inv first) (i : Nat) (hi : i < 100000) (s : ByteArray) (hs : s.size ≤ 4096) (hW : ((i + s.size : Nat) : Int) ≤ b.room) (ha : ∀ k : Nat, i ≤ k → k < i + s.size → b.at k = none) : b.many (addq first (i : Int)) s = s.size := by
  by_cases h0 : s.size = 0
  · rw [h.no_more i hi s (fun k h1 h2 => absurd h2 (by omega)), h0]
    rfl
  · have hm : b.ready.length ≤ i := by
      apply Classical.byContradiction
      intro hn
      have h1 := h.at_lt i (by omega)
      rw [ha i (Nat.le_refl _) (by omega)] at h1
      cases h1
    refine h.many_all _ _ hs ?_ ?_ (fun k h1 h2 => ?_)
    · rw [h.next, dif_two first i _ (by omega) (by have := h.short; omega)]; omega
    · rw [h.next, dif_two first i _ (by omega) (by have := h.short; omega)]; omega
    · rw [h.next, dif_two first i _ (by omega) (by have := h.short; omega)] at h1 h2
      exact ha k (by omega) (by omega)
end Go.Proofs.Ytpanenghlpipkaa.Recv
