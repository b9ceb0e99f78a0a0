/- A receive buffer beside a row of marks; the plain law of RecvOrder. -/
import Derived.Test.YtpanenghlpipkaaTwo
namespace Go.Proofs.Ytpanenghlpipkaa.Recv
open Go.RowKit Go.Proofs.Ytpanenghlpipkaa.PRecvOrder Go.Proofs.YtpanenghlpipkaaW.PrintWords Go.Proofs.YtpanenghlpipkaaW.PrintLast Go.Proofs.YtpanenghlpipkaaW.PrintMore
open Go.Proofs.Ytpanenghlpipkaa.Mine
set_option linter.unusedVariables false
set_option linter.unusedSimpArgs false

/-- The cells of a row of marks. -/
def marks (L : List Bool) : Array Value := (L.map Value.bool).toArray
/-- The buffer b at block g, beside the marks L in block G. -/
def HasG (W w : World) (g : Nat) (b : RB) (G : Nat) (L : List Bool) : Prop :=
  ∃ vr vd vt, BufV w W.heap.size g b.next b.room vr vd vt b.ready b.data b.there ∧ ¬ Own g vr vd vt G ∧ w.heap[G]? = some (.cells (marks L) 4 (0, 0)) ∧ W.heap.size ≤ G ∧ Below W.heap.size W w

section
variable {W w w' : World} {g G : Nat} {b : RB} {L : List Bool}
theorem HasG.one (h : HasG W w g b G L) : Has W w g b := by
  obtain ⟨vr, vd, vt, h1, _, _, _, h4⟩ := h
  exact ⟨vr, vd, vt, h1, h4⟩
theorem HasG.below (h : HasG W w g b G L) : Below W.heap.size W w := h.one.below
theorem HasG.elder (h : HasG W w g b G L) (hb : Below w.heap.size w w') : HasG W w' g b G L := by
  obtain ⟨vr, vd, vt, h1, h2, h3, h4, h5⟩ := h
  exact ⟨vr, vd, vt, h1.below hb, h2, blk_kept h3 (Kept.of_below hb (fun _ => False)) (fun hf => hf), h4, h5.trans (hb.mono h5.size)⟩
theorem HasG.drewN (h : HasG W w g b G L) (n : Nat) : HasG W (w.drewN n) g b G L := h.elder (pw_below_drewN (Below.refl _ _) n)
theorem HasG.drew (h : HasG W w g b G L) : HasG W w.drew g b G L := h.elder (below_drew1 (Below.refl _ _))
theorem HasG.blk (h : HasG W w g b G L) : w.heap[G]? = some (.cells (marks L) 4 (0, 0)) := by
  obtain ⟨vr, vd, vt, h1, h2, h3, h4, h5⟩ := h
  exact h3
theorem marks_get (L : List Bool) (k : Nat) (hk : k < L.length) : (marks L)[k]? = some (.bool (L.getD k false)) := by
  simp [marks, hk]
theorem HasG.cell (h : HasG W w g b G L) (k : Nat) (hk : k < L.length) : w.cell? ⟨G, k, none⟩ = some (.bool (L.getD k false)) := (blk_cell h.blk k).trans (marks_get L k hk)
theorem HasG.frozen (h : HasG W w g b G L) (k : Nat) : w.frozen? ⟨G, k, none⟩ = false := blk_frozen h.blk k
theorem HasG.set (h : HasG W w g b G L) (k : Nat) (x : Bool) : HasG W (w.setCell ⟨G, k, none⟩ (.bool x)) g b G (L.set k x) := by
  obtain ⟨vr, vd, vt, h1, h2, h3, h4, h5⟩ := h
  refine ⟨vr, vd, vt, h1.kept (S := fun k => k = G) (Kept.setCell (S := fun k => k = G) (p := ⟨G, k, none⟩) (Kept.refl w _) (.inl rfl) _) (fun k hk e => h2 (e ▸ hk)), h2, blk_put h3 k _ ?_, h4, h5.setCell h4 _⟩
  simp [marks, List.map_set]
theorem Has.marks (h : Has W w g b) (r : Nat) : HasG W (w.alloc (.cells (madeCells #[.bool false] r) 4)) g b w.heap.size (List.replicate r false) := by
  have hb : Below w.heap.size w (w.alloc (.cells (madeCells #[.bool false] r) 4)) := (Below.refl _ _).alloc (Nat.le_refl _) _
  obtain ⟨vr, vd, vt, h1, h2⟩ := h
  refine ⟨vr, vd, vt, h1.below hb, fun hk => absurd (h1.lt _ hk) (Nat.lt_irrefl _), ?_, h2.size, h2.trans (hb.mono h2.size)⟩
  rw [heap_alloc_new]
  congr 2
  apply Array.ext
  · simp [madeCells, Recv.marks]
  · intro i h1 h2
    simp [madeCells, Recv.marks]
    rw [Nat.mod_one]
    rfl

theorem in_hasG (h : HasG W w g b G L) (hok : b.Ok) (x : Int) (s : ByteArray) :
    Calls Try.prog 10 #[.pointer (some ⟨g, 0, none⟩), .int .u32 x, .string s] w fun e w' => e = .returned (.tuple #[.int .i64 (b.many x s), .int .i64 (RB.errno s)]) ∧ HasG W w' g (b.put x s) G L := by
  by_cases hs : 4096 < s.size
  · refine (in_large w _ x s hs).mono ?_
    rintro e w' ⟨he, hw⟩
    subst hw
    exact ⟨by rw [he, RB.many, RB.errno, if_pos hs, if_pos hs], by rw [RB.put, if_pos hs]; exact h⟩
  · obtain ⟨vr, vd, vt, h1, h2, h3, h4, h5⟩ := h
    refine (in_calls W w x s h1 h5 h5.size (by omega) hok.room hok.fits).mono ?_
    rintro e w' ⟨he, vr', vd', vt', h6, hk, ho, h7⟩
    refine ⟨by rw [he, RB.many, RB.errno, if_neg hs, if_neg hs]; rfl, ?_⟩
    rw [RB.put, if_neg hs]
    refine ⟨vr', vd', vt', h6, fun h8 => ?_, blk_kept h3 hk h2, h4, h7⟩
    rcases ho G h8 with h9 | h9
    · exact h2 h9
    · exact absurd (blk_lt h3) (by omega)
end

/-- L, with the marks from f up to t set. -/
def mark (L : List Bool) (f t : Nat) : List Bool := (List.range L.length).map fun j => L.getD j false || (decide (f ≤ j) && decide (j < t))
theorem mark_length (L : List Bool) (f t : Nat) : (mark L f t).length = L.length := by simp [mark]
theorem mark_getD (L : List Bool) (f t k : Nat) (ht : t ≤ L.length) : (mark L f t).getD k false = (L.getD k false || (decide (f ≤ k) && decide (k < t))) := by
  rw [List.getD_eq_getElem?_getD (l := mark L f t)]
  by_cases hk : k < L.length
  · simp [mark, hk]
  · rw [List.getElem?_eq_none (by rw [mark_length]; omega), List.getD_eq_getElem?_getD, List.getElem?_eq_none (by omega), show decide (k < t) = false from decide_eq_false (by omega)]
    simp
theorem list_getD_ext {a b : List Bool} (hl : a.length = b.length) (h : ∀ k, a.getD k false = b.getD k false) : a = b := by
  refine List.ext_getElem hl (fun i hi hj => ?_)
  have h2 := h i
  rw [List.getD_eq_getElem?_getD, List.getD_eq_getElem?_getD, List.getElem?_eq_getElem hi, List.getElem?_eq_getElem hj] at h2
  exact h2
theorem mark_none (L : List Bool) (f : Nat) (hf : f ≤ L.length) : mark L f f = L := by
  refine list_getD_ext (mark_length _ _ _) (fun k => ?_)
  rw [mark_getD _ _ _ _ hf]
  have : (decide (f ≤ k) && decide (k < f)) = false := by
    by_cases h : f ≤ k
    · rw [show decide (k < f) = false from decide_eq_false (by omega), Bool.and_false]
    · rw [decide_eq_false h, Bool.false_and]
  rw [this, Bool.or_false]
theorem mark_next (L : List Bool) (f k : Nat) (hf : f ≤ k) (hk : k < L.length) : (mark L f k).set k true = mark L f (k + 1) := by
  refine list_getD_ext (by rw [List.length_set, mark_length, mark_length]) (fun j => ?_)
  rw [set_getD _ _ _ _ _ (by rw [mark_length]; exact hk), mark_getD _ _ _ _ (by omega), mark_getD _ _ _ _ (by omega)]
  by_cases e : j = k
  · subst e
    rw [if_pos rfl, decide_eq_true hf, decide_eq_true (show j < j + 1 by omega)]
    simp
  · rw [if_neg e]
    congr 2
    by_cases h : j < k
    · rw [decide_eq_true h, decide_eq_true (by omega)]
    · rw [decide_eq_false h, decide_eq_false (by omega)]

/-- The buffer holds of s just what is marked. -/
structure Order (first : Int) (s : ByteArray) (b : RB) (L : List Bool) : Prop where
  inv : b.Inv first
  room : b.room = 1000
  len : L.length = s.size
  at_ : ∀ q, b.at q = if L.getD q false = true then some ((bytesOf s).getD q 0) else none

theorem order_new (first : Int) (hf : 0 ≤ first ∧ first ≤ 4294967295) (s : ByteArray) : Order first s ⟨first, 1000, [], [], []⟩ (List.replicate s.size false) where
  inv := inv_new first 1000 hf (by decide) (by decide)
  room := rfl
  len := List.length_replicate
  at_ := fun q => by
    rw [at_new, if_neg]
    rw [List.getD_eq_getElem?_getD, List.getElem?_replicate]
    split <;> simp
theorem Order.put {first : Int} {s : ByteArray} {b : RB} {L : List Bool} (h : Order first s b L) (hs : s.size ≤ 200) (f t : Nat) (h1 : f ≤ t) (h2 : t ≤ s.size) :
    Order first s (b.put (addq first (f : Int)) (s.extract f t)) (mark L f t) where
  inv := h.inv.put _ _
  room := by rw [RB.put_room]; exact h.room
  len := by rw [mark_length]; exact h.len
  at_ := fun q => by
    have he : (s.extract f t).size = t - f := by rw [ByteArray.size_extract]; omega
    rw [h.inv.at_puts f (by omega) _ (by omega) q, h.at_ q, h.room, he, mark_getD _ _ _ _ (by rw [h.len]; exact h2)]
    cases hq : L.getD q false with
    | true => rfl
    | false =>
      simp only [Bool.false_or]
      rw [if_neg (by decide)]
      simp only
      by_cases c : f ≤ q ∧ q < t
      · rw [if_pos (by omega), decide_eq_true c.1, decide_eq_true c.2, if_pos (by rfl), bytesOf_extract s f t (q - f) (by omega) h2, show f + (q - f) = q by omega]
      · rw [if_neg (by omega)]
        by_cases c1 : f ≤ q
        · rw [show decide (q < t) = false from decide_eq_false (by omega), Bool.and_false, if_neg (by decide)]
        · rw [decide_eq_false c1, Bool.false_and, if_neg (by decide)]
/-- What is read: the bytes before the first gap. -/
theorem Order.done {first : Int} {s : ByteArray} {b : RB} {L : List Bool} (h : Order first s b L) : b.ready = (bytesOf s).take (lead L) ∧ lead L ≤ s.size ∧ b.next = addq first (lead L : Int) := by
  have hl := lead_le L
  rw [h.len] at hl
  have h1 : ((bytesOf s).take (lead L)).length = lead L := by rw [List.length_take, bytesOf_length]; omega
  have h2 : b.ready = (bytesOf s).take (lead L) := by
    refine h.inv.ready_is _ (fun k hk => ?_) ?_
    · rw [h1] at hk
      rw [h.at_ k, if_pos (lead_true L k hk)]
      congr 1
      rw [List.getD_eq_getElem?_getD, List.getD_eq_getElem?_getD, List.getElem?_take, if_pos hk]
    · rw [h1, h.at_, lead_false, if_neg (by decide)]
  refine ⟨h2, hl, ?_⟩
  rw [h.inv.next, h2, h1]
end Go.Proofs.Ytpanenghlpipkaa.Recv
