/- Two receive buffers that share no memory. -/
import Derived.Test.YtpanenghlpipkaaView
namespace Go.Proofs.Ytpanenghlpipkaa.Recv
open Go.RowKit Go.Proofs.Ytpanenghlpipkaa.PRecvOrder Go.Proofs.YtpanenghlpipkaaW.PrintWords Go.Proofs.YtpanenghlpipkaaW.PrintLast Go.Proofs.YtpanenghlpipkaaW.PrintMore
open Go.Proofs.Ytpanenghlpipkaa.Mine
set_option linter.unusedVariables false
set_option linter.unusedSimpArgs false

/-- The buffers b1 at block g1 and b2 at block g2, in memory that is younger than W, and apart. -/
def Has2 (W w : World) (g1 : Nat) (b1 : RB) (g2 : Nat) (b2 : RB) : Prop :=
  ∃ vr vd vt vr2 vd2 vt2, BufV w W.heap.size g1 b1.next b1.room vr vd vt b1.ready b1.data b1.there ∧ BufV w W.heap.size g2 b2.next b2.room vr2 vd2 vt2 b2.ready b2.data b2.there ∧
    (∀ k, Own g1 vr vd vt k → Own g2 vr2 vd2 vt2 k → False) ∧ Below W.heap.size W w

section
variable {W w w' : World} {g1 g2 : Nat} {b1 b2 : RB}
theorem Has2.swap (h : Has2 W w g1 b1 g2 b2) : Has2 W w g2 b2 g1 b1 := by
  obtain ⟨vr, vd, vt, vr2, vd2, vt2, h1, h2, h3, h4⟩ := h
  exact ⟨vr2, vd2, vt2, vr, vd, vt, h2, h1, fun k hk hk2 => h3 k hk2 hk, h4⟩
theorem Has2.one (h : Has2 W w g1 b1 g2 b2) : Has W w g1 b1 := by
  obtain ⟨vr, vd, vt, vr2, vd2, vt2, h1, h2, h3, h4⟩ := h
  exact ⟨vr, vd, vt, h1, h4⟩
theorem Has2.below (h : Has2 W w g1 b1 g2 b2) : Below W.heap.size W w := h.one.below
theorem Has2.elder (h : Has2 W w g1 b1 g2 b2) (hb : Below w.heap.size w w') : Has2 W w' g1 b1 g2 b2 := by
  obtain ⟨vr, vd, vt, vr2, vd2, vt2, h1, h2, h3, h4⟩ := h
  exact ⟨vr, vd, vt, vr2, vd2, vt2, h1.below hb, h2.below hb, h3, h4.trans (hb.mono h4.size)⟩
theorem Has2.drewN (h : Has2 W w g1 b1 g2 b2) (n : Nat) : Has2 W (w.drewN n) g1 b1 g2 b2 := h.elder (pw_below_drewN (Below.refl _ _) n)
theorem Has2.drew (h : Has2 W w g1 b1 g2 b2) : Has2 W w.drew g1 b1 g2 b2 := h.elder (below_drew1 (Below.refl _ _))

theorem new_has2 (h : Has W w g1 b1) (first room : Int) (h1 : 1 ≤ room) (h2 : room ≤ 65535) :
    Calls Try.prog 8 #[.int .u32 first, .int .i64 room] w fun e w' => ∃ g : Nat, e = .returned (.tuple #[.pointer (some ⟨g, 0, none⟩), .int .i64 0]) ∧ Has2 W w' g1 b1 g ⟨first, room, [], [], []⟩ := by
  obtain ⟨vr, vd, vt, hv, hb⟩ := h
  refine (new_calls first room w h1 h2).mono ?_
  rintro e w' ⟨g, he, h, hb2⟩
  refine ⟨g, he, vr, vd, vt, _, _, _, hv.below hb2, ⟨h.blk, Nat.le_trans hb.size h.ge, Kd.R_nil _ _ _ _ _, Kd.Q_nil _ _ _ _ _, Kd.Q_nil _ _ _ _ _, h.sep⟩, fun k hk hk2 => ?_, hb.trans (hb2.mono hb.size)⟩
  have h3 := hv.lt k hk
  have h4 := h.own_ge k hk2
  omega

theorem left_has2 {vr vd vt vr2 vd2 vt2 : Value} {b1' : RB} (hv1 : BufV w W.heap.size g1 b1.next b1.room vr vd vt b1.ready b1.data b1.there) (hv2 : BufV w W.heap.size g2 b2.next b2.room vr2 vd2 vt2 b2.ready b2.data b2.there)
    (hs : ∀ k, Own g1 vr vd vt k → Own g2 vr2 vd2 vt2 k → False) (hl : Left W w w' W.heap.size g1 vr vd vt b1'.next b1'.room b1'.ready b1'.data b1'.there) : Has2 W w' g1 b1' g2 b2 := by
  obtain ⟨vr', vd', vt', h3, hk, ho, h4⟩ := hl
  refine ⟨vr', vd', vt', vr2, vd2, vt2, h3, hv2.kept hk (fun k h2 h1 => hs k h1 h2), fun k h5 h6 => ?_, h4⟩
  rcases ho k h5 with h7 | h7
  · exact hs k h7 h6
  · have := hv2.lt k h6
    omega

theorem in_has2 (h : Has2 W w g1 b1 g2 b2) (hok : b1.Ok) (x : Int) (s : ByteArray) :
    Calls Try.prog 10 #[.pointer (some ⟨g1, 0, none⟩), .int .u32 x, .string s] w fun e w' => e = .returned (.tuple #[.int .i64 (b1.many x s), .int .i64 (RB.errno s)]) ∧ Has2 W w' g1 (b1.put x s) g2 b2 := by
  by_cases hs : 4096 < s.size
  · refine (in_large w _ x s hs).mono ?_
    rintro e w' ⟨he, hw⟩
    subst hw
    exact ⟨by rw [he, RB.many, RB.errno, if_pos hs, if_pos hs], by rw [RB.put, if_pos hs]; exact h⟩
  · obtain ⟨vr, vd, vt, vr2, vd2, vt2, h1, h2, h3, h4⟩ := h
    refine (in_calls W w x s h1 h4 h4.size (by omega) hok.room hok.fits).mono ?_
    rintro e w' ⟨he, hl⟩
    refine ⟨by rw [he, RB.many, RB.errno, if_neg hs, if_neg hs]; rfl, ?_⟩
    rw [RB.put, if_neg hs]
    exact left_has2 (b1' := ⟨_, _, _, _, _⟩) h1 h2 h3 hl

theorem read_has2 (h : Has2 W w g1 b1 g2 b2) (hok : b1.Ok) (most : Int) (h0 : 0 ≤ most) : Calls Try.prog 17 #[.pointer (some ⟨g1, 0, none⟩), .int .i64 most] w fun e w' =>
    e = .returned (.tuple #[.string (strOfNums (b1.ready.take (min most.toNat b1.ready.length))), .int .i64 0]) ∧ Has2 W w' g1 (b1.took (min most.toNat b1.ready.length)) g2 b2 := by
  obtain ⟨vr, vd, vt, vr2, vd2, vt2, h1, h2, h3, h4⟩ := h
  refine (read_calls W w most _ h1 h4 h4.size h0 (by have := RB.ready_le hok; omega) rfl).mono ?_
  rintro e w' ⟨he, hl⟩
  exact ⟨he, left_has2 (b1' := ⟨_, _, _, _, _⟩) h1 h2 h3 hl⟩
end

theorem bytesOf_extract (s : ByteArray) (i j q : Nat) (h : q < j - i) (hj : j ≤ s.size) : (bytesOf (s.extract i j)).getD q 0 = (bytesOf s).getD (i + q) 0 := by
  rw [bytesOf_getD _ _ (by rw [ByteArray.size_extract]; omega), bytesOf_getD _ _ (by omega)]
  congr 2
  simp only [ByteArray.getElem_eq_getElem_data, ByteArray.data_extract, Array.getElem_extract]
theorem addq_two (first : Int) (i j : Nat) : addq (addq first (i : Int)) (j : Int) = addq first ((i + j : Nat) : Int) := by simp only [addq]; omega

/-- The plain law: a string that comes in two parts. -/
theorem parts_law (first : Int) (hf : 0 ≤ first ∧ first ≤ 4294967295) (r k : Nat) (hr : r ≤ 1000) (s th : ByteArray) (hs : s.size ≤ 300) (hk : k ≤ s.size) (a0 a1 a2 b1 b2 b3 : RB) (e0 : a0 = ⟨first, 400, [], [], []⟩)
    (e1 : a1 = a0.put (addq first (r : Int)) s) (e2 : b1 = a0.put (addq first (r : Int)) (s.extract 0 k)) (e3 : b2 = b1.put (addq (addq first (r : Int)) (k : Int)) (s.extract k s.size)) (e4 : a2 = a1.put first th) (e5 : b3 = b2.put first th) :
    a0.Ok ∧ a1.Ok ∧ a2.Ok ∧ b1.Ok ∧ b2.Ok ∧ b3.Ok ∧ a2.ready = b3.ready ∧ a2.next = b3.next ∧ a2.there = b3.there := by
  have i0 : a0.Inv first := by rw [e0]; exact inv_new first 400 hf (by decide) (by decide)
  have z0 : ∀ q, a0.at q = none := by intro q; rw [e0]; exact at_new first 400 q
  have m0 : a0.room = 400 := by rw [e0]
  have i1 : a1.Inv first := by rw [e1]; exact i0.put _ _
  have m1 : a1.room = 400 := by rw [e1, RB.put_room, m0]
  have j1 : b1.Inv first := by rw [e2]; exact i0.put _ _
  have n1 : b1.room = 400 := by rw [e2, RB.put_room, m0]
  have j2 : b2.Inv first := by rw [e3]; exact j1.put _ _
  have n2 : b2.room = 400 := by rw [e3, RB.put_room, n1]
  have i2 : a2.Inv first := by rw [e4]; exact i1.put _ _
  have j3 : b3.Inv first := by rw [e5]; exact j2.put _ _
  have s1 : (s.extract 0 k).size = k := by rw [ByteArray.size_extract]; omega
  have s2 : (s.extract k s.size).size = s.size - k := by rw [ByteArray.size_extract]; omega
  have h1 : ∀ q, a1.at q = b2.at q := by
    intro q
    rw [e3, addq_two, j1.at_puts (r + k) (by omega) _ (by omega) q, e2, i0.at_puts r (by omega) _ (by omega) q, e1, i0.at_puts r (by omega) s (by omega) q, z0 q, RB.put_room, m0, s1, s2]
    simp only
    by_cases c1 : r ≤ q ∧ q < r + k ∧ (q : Int) < 400
    · rw [if_pos c1, if_pos (by omega)]
      simp only
      rw [bytesOf_extract s 0 k (q - r) (by omega) hk, Nat.zero_add]
    · rw [if_neg c1]
      simp only
      by_cases c2 : r + k ≤ q ∧ q < r + k + (s.size - k) ∧ (q : Int) < 400
      · rw [if_pos c2, if_pos (by omega), bytesOf_extract s k s.size (q - (r + k)) (by omega) (Nat.le_refl _), show k + (q - (r + k)) = q - r by omega]
      · rw [if_neg c2, if_neg (by omega)]
  have h2 : ∀ q, a2.at q = b3.at q := by
    intro q
    by_cases hl : 4096 < th.size
    · have ea : a2 = a1 := by rw [e4]; unfold RB.put; rw [if_pos hl]
      have eb : b3 = b2 := by rw [e5]; unfold RB.put; rw [if_pos hl]
      rw [ea, eb]
      exact h1 q
    · have ha := i1.at_puts 0 (by omega) th (by omega) q
      have hb := j2.at_puts 0 (by omega) th (by omega) q
      rw [addq_zero hf, ← e4, m1, h1 q] at ha
      rw [addq_zero hf, ← e5, n2] at hb
      rw [ha, hb]
  obtain ⟨hr1, hr2, hr3⟩ := i2.same j3 h2
  exact ⟨i0.ok, i1.ok, i2.ok, j1.ok, j2.ok, j3.ok, hr1, hr2, hr3⟩
end Go.Proofs.Ytpanenghlpipkaa.Recv
