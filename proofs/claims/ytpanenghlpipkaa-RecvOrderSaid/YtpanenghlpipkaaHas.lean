/- A receive buffer as the laws see it: a plain state b in the world w, in memory that is younger than W. -/
import Derived.Test.YtpanenghlpipkaaFact
namespace Go.Proofs.Ytpanenghlpipkaa.Recv
open Go.RowKit Go.Proofs.Ytpanenghlpipkaa.PRecvOrder Go.Proofs.YtpanenghlpipkaaW.PrintWords Go.Proofs.YtpanenghlpipkaaW.PrintLast Go.Proofs.YtpanenghlpipkaaW.PrintMore
open Go.Proofs.Ytpanenghlpipkaa.Mine
set_option linter.unusedVariables false
set_option linter.unusedSimpArgs false

/-- The plain state of a buffer. -/
structure RB where
  next : Int
  room : Int
  ready : List Int
  data : List Int
  there : List Bool

namespace RB
/-- What the queues hold, before the leading bytes are moved, when s arrives at the number x. -/
def stored (b : RB) (x : Int) (s : ByteArray) : Qs := storeAll (b.room - b.ready.length) (dif x b.next) (bytesOf s) (b.data, b.there, 0)
/-- The state behind In. -/
def put (b : RB) (x : Int) (s : ByteArray) : RB :=
  if 4096 < s.size then b else
  ⟨(b.next + lead (b.stored x s).2.1) % 4294967296, b.room, b.ready ++ (b.stored x s).1.take (lead (b.stored x s).2.1), (b.stored x s).1.drop (lead (b.stored x s).2.1), (b.stored x s).2.1.drop (lead (b.stored x s).2.1)⟩
/-- In's results. -/
def many (b : RB) (x : Int) (s : ByteArray) : Int := if 4096 < s.size then 0 else ((b.stored x s).2.2 : Int)
def errno (s : ByteArray) : Int := if 4096 < s.size then 2 else 0
/-- The state behind Read of n bytes. -/
def took (b : RB) (n : Nat) : RB := ⟨b.next, b.room, b.ready.drop n, b.data, b.there⟩
structure Ok (b : RB) : Prop where
  room : 1 ≤ b.room ∧ b.room ≤ 65535
  fits : Fits (b.room - b.ready.length) (b.data, b.there, 0)
end RB

theorem Fits.storeAll {W : Int} : ∀ (cs : List Int) (p : Int) (q : Qs), Fits W q → Fits W (Recv.storeAll W p cs q) := by
  intro cs
  induction cs with
  | nil => intro p q h; exact h
  | cons c cs ih => intro p q h; exact ih _ _ h.store1

theorem RB.Ok.stored {b : RB} (h : b.Ok) (x : Int) (s : ByteArray) : Fits (b.room - b.ready.length) (b.stored x s) := Fits.storeAll _ _ _ h.fits

theorem RB.Ok.put {b : RB} (h : b.Ok) (x : Int) (s : ByteArray) : (b.put x s).Ok := by
  unfold RB.put
  split
  · exact h
  · have hs := h.stored x s
    have hl := lead_le (b.stored x s).2.1
    refine ⟨h.room, ?_, ?_⟩
    · have := hs.1
      simp only [List.length_drop]
      omega
    · have h1 := hs.1
      have h2 := hs.2
      simp only [List.length_drop, List.length_append, List.length_take]
      omega

theorem RB.Ok.took {b : RB} (h : b.Ok) (n : Nat) : (b.took n).Ok := by
  have h1 := h.fits.1
  have h2 := h.fits.2
  simp only at h1 h2
  refine ⟨h.room, h1, ?_⟩
  simp only [RB.took, List.length_drop]
  omega

theorem RB.ready_le {b : RB} (h : b.Ok) : (b.ready.length : Int) ≤ 65535 := by
  have h2 := h.fits.2
  have h3 := h.room
  simp only at h2
  omega

/-- The buffer b stands at block g. -/
def Has (W w : World) (g : Nat) (b : RB) : Prop := ∃ vr vd vt, BufV w W.heap.size g b.next b.room vr vd vt b.ready b.data b.there ∧ Below W.heap.size W w

theorem Has.below {W w : World} {g : Nat} {b : RB} (h : Has W w g b) : Below W.heap.size W w := by
  obtain ⟨_, _, _, _, h⟩ := h; exact h
theorem Has.elder {W w w2 : World} {g : Nat} {b : RB} (h : Has W w g b) (hb : Below w.heap.size w w2) : Has W w2 g b := by
  obtain ⟨vr, vd, vt, h1, h2⟩ := h
  exact ⟨vr, vd, vt, h1.below hb, h2.trans (hb.mono h2.size)⟩
theorem Has.drewN {W w : World} {g : Nat} {b : RB} (h : Has W w g b) (n : Nat) : Has W (w.drewN n) g b := h.elder (pw_below_drewN (Below.refl _ _) n)
theorem Has.drew {W w : World} {g : Nat} {b : RB} (h : Has W w g b) : Has W w.drew g b := h.elder (below_drew1 (Below.refl _ _))

theorem new_has (W w : World) (hb : Below W.heap.size W w) (first room : Int) (h1 : 1 ≤ room) (h2 : room ≤ 65535) :
    Calls Try.prog 8 #[.int .u32 first, .int .i64 room] w fun e w' => ∃ g : Nat, e = .returned (.tuple #[.pointer (some ⟨g, 0, none⟩), .int .i64 0]) ∧ w.heap.size ≤ g ∧ Below w.heap.size w w' ∧ Has W w' g ⟨first, room, [], [], []⟩ := by
  refine (new_calls first room w h1 h2).mono ?_
  rintro e w' ⟨g, he, h, hb2⟩
  refine ⟨g, he, h.ge, hb2, _, _, _, ⟨h.blk, Nat.le_trans hb.size h.ge, Kd.R_nil _ _ _ _ _, Kd.Q_nil _ _ _ _ _, Kd.Q_nil _ _ _ _ _, h.sep⟩, hb.trans (hb2.mono hb.size)⟩

theorem ok_new (first room : Int) (h1 : 1 ≤ room) (h2 : room ≤ 65535) : RB.Ok ⟨first, room, [], [], []⟩ := ⟨⟨h1, h2⟩, rfl, by simp; omega⟩

set_option maxHeartbeats 4000000 in
set_option maxRecDepth 100000 in
theorem in_large (w : World) (v : Value) (x : Int) (s : ByteArray) (h : 4096 < s.size) : Calls Try.prog 10 #[v, .int .u32 x, .string s] w fun e w' => e = .returned (.tuple #[.int .i64 0, .int .i64 2]) ∧ w' = w := by
  have t1 : decide (4096 < (s.size : Int)) = true := decide_eq_true (by omega)
  have t2 : decide (4096 < s.size) = true := decide_eq_true (by omega)
  go_enter Try.func10, Try.ntmps10
  go_wp2
  go_ret2
  exact ⟨rfl, rfl⟩

theorem in_has {W w : World} {g : Nat} {b : RB} (h : Has W w g b) (hok : b.Ok) (x : Int) (s : ByteArray) :
    Calls Try.prog 10 #[.pointer (some ⟨g, 0, none⟩), .int .u32 x, .string s] w fun e w' => e = .returned (.tuple #[.int .i64 (b.many x s), .int .i64 (RB.errno s)]) ∧ Has W w' g (b.put x s) := by
  by_cases hs : 4096 < s.size
  · refine (in_large w _ x s hs).mono ?_
    rintro e w' ⟨he, hw⟩
    subst hw
    exact ⟨by rw [he, RB.many, RB.errno, if_pos hs, if_pos hs], by rw [RB.put, if_pos hs]; exact h⟩
  · obtain ⟨vr, vd, vt, h1, h2⟩ := h
    refine (in_calls W w x s h1 h2 h2.size (by omega) hok.room hok.fits).mono ?_
    rintro e w' ⟨he, vr', vd', vt', h3, _, _, h4⟩
    refine ⟨by rw [he, RB.many, RB.errno, if_neg hs, if_neg hs]; rfl, ?_⟩
    rw [RB.put, if_neg hs]
    exact ⟨vr', vd', vt', h3, h4⟩

theorem next_has {W w : World} {g : Nat} {b : RB} (h : Has W w g b) : Calls Try.prog 15 #[.pointer (some ⟨g, 0, none⟩)] w fun e w' => e = .returned (.int .u32 b.next) ∧ w' = w := by
  obtain ⟨vr, vd, vt, h1, h2⟩ := h
  exact next_calls w h1

theorem window_has {W w : World} {g : Nat} {b : RB} (h : Has W w g b) (hok : b.Ok) : Calls Try.prog 16 #[.pointer (some ⟨g, 0, none⟩)] w fun e w' => e = .returned (.int .i64 (b.room - b.ready.length)) ∧ ∃ nd, w' = w.drewN nd := by
  obtain ⟨vr, vd, vt, h1, h2⟩ := h
  exact window_calls w h1 ⟨by have := hok.room; omega, hok.room.2⟩ (by have := RB.ready_le hok; omega)

theorem read_has {W w : World} {g : Nat} {b : RB} (h : Has W w g b) (hok : b.Ok) (most : Int) (h0 : 0 ≤ most) : Calls Try.prog 17 #[.pointer (some ⟨g, 0, none⟩), .int .i64 most] w fun e w' =>
    e = .returned (.tuple #[.string (strOfNums (b.ready.take (min most.toNat b.ready.length))), .int .i64 0]) ∧ Has W w' g (b.took (min most.toNat b.ready.length)) := by
  obtain ⟨vr, vd, vt, h1, h2⟩ := h
  refine (read_calls W w most _ h1 h2 h2.size h0 (by have := RB.ready_le hok; omega) rfl).mono ?_
  rintro e w' ⟨he, vr', vd', vt', h3, _, _, h4⟩
  exact ⟨he, vr', vd', vt', h3, h4⟩

theorem blocks_has {W w : World} {g : Nat} {b : RB} (h : Has W w g b) (hok : b.Ok) : Calls Try.prog 13 #[.pointer (some ⟨g, 0, none⟩)] w fun e w' =>
    ∃ v, e = .returned v ∧ k37.R 37 w' w.heap.size (fun _ => True) v (blocksFrom b.next b.there b.there.length 0) ∧ Below w.heap.size w w' := by
  obtain ⟨vr, vd, vt, h1, h2⟩ := h
  refine blocks_calls w h1 ?_
  have h3 := hok.fits.1
  have h4 := hok.fits.2
  have h5 := hok.room
  simp only at h3 h4
  omega

set_option maxRecDepth 100000 in
theorem rest_calls (n m : Int) (w : World) (h0 : 0 < m) (h1 : m ≤ 9223372036854775807) : Calls Try.prog 12 #[.int .i64 n, .int .i64 m] w fun e w' => e = .returned (.int .i64 (rst n m)) ∧ w' = w := by
  have hb := @rst_bd n m h0
  have c3b0 : (m == 0) = false := beq_eq_false_iff_ne.mpr (by omega)
  have c3b1 : (m != 0) = true := bne_iff_ne.mpr (by omega)
  have c3 : m ≠ 0 := by omega
  have hr : rst n m = if Int.tmod n m < 0 then Int.tmod n m + m else Int.tmod n m := rfl
  by_cases c4 : Int.tmod n m < 0
  · rw [if_pos c4] at hr
    rw [hr] at hb ⊢
    have hw : wrap64 (Int.tmod n m + m) = Int.tmod n m + m := wrap64_in (by omega)
    have c4b0 : decide ((Int.tmod n m) < 0) = true := decide_eq_true c4
    clear c4 hr
    have HW := Aside0.mk hw
    clear hw
    go_enter Try.func12, Try.ntmps12
    go_wp2
    go_ret
    exact ⟨by first | rfl | rw [HW.out], rfl⟩
  · rw [if_neg c4] at hr
    rw [hr] at hb ⊢
    have c4b0 : decide ((Int.tmod n m) < 0) = false := decide_eq_false c4
    clear c4 hr
    go_enter Try.func12, Try.ntmps12
    go_wp2
    go_ret
    exact ⟨rfl, rfl⟩
end Go.Proofs.Ytpanenghlpipkaa.Recv
