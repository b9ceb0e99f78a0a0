/- The walk of (*recv.Buffer).move: the bytes that follow without a gap become readable. -/
import Derived.Test.YtpanenghlpipkaaBuf
import Derived.Deep.RegionLaw
import Derived.RegionTactic
import Derived.BigRegion
namespace Go.Proofs.Ytpanenghlpipkaa.Recv
open Go.RowKit Go.Proofs.Ytpanenghlpipkaa.PRecvOrder Go.Proofs.YtpanenghlpipkaaW.PrintWords Go.Proofs.YtpanenghlpipkaaW.PrintLast Go.Proofs.YtpanenghlpipkaaW.PrintMore
set_option linter.unusedVariables false
set_option linter.unusedSimpArgs false

/-- How many bytes follow without a gap. -/
def lead : List Bool → Nat
  | [] => 0
  | true :: l => lead l + 1
  | false :: _ => 0

theorem lead_le (l : List Bool) : lead l ≤ l.length := by
  induction l with
  | nil => exact Nat.le_refl _
  | cons b l ih => cases b <;> simp [lead]; omega

theorem lead_true (l : List Bool) : ∀ i, i < lead l → l.getD i false = true := by
  induction l with
  | nil => intro i h; exact absurd h (by simp [lead])
  | cons b l ih =>
    intro i h
    cases b with
    | false => exact absurd h (by simp [lead])
    | true =>
      cases i with
      | zero => rfl
      | succ i => simpa using ih i (by simpa [lead] using h)

theorem lead_false (l : List Bool) : l.getD (lead l) false = false := by
  induction l with
  | nil => rfl
  | cons b l ih =>
    cases b with
    | false => rfl
    | true => simpa [lead] using ih

theorem q_own {α : Type} {d : Kd α} {e base : Nat} {ok : Nat → Prop} {W : World} {v : Value} {xs : List α} (h : d.Q e W base ok v xs) {k : Nat} (hk : v.ownBlock = some k) : base ≤ k ∧ ∃ cells, W.heap[k]? = some (.cells cells e (0, 0)) := by
  obtain ⟨_, inner, ho, _⟩ := h
  exact q_typed ho k hk
theorem r_own {α : Type} {d : Kd α} {e base : Nat} {ok : Nat → Prop} {W : World} {v : Value} {xs : List α} (h : d.R e W base ok v xs) {k : Nat} (hk : v.ownBlock = some k) : base ≤ k ∧ ∃ cells, W.heap[k]? = some (.cells cells e (0, 0)) := by
  obtain ⟨inner, ho⟩ := Kd.R_own h
  exact ⟨Kd.R_base h k hk, own_typed ho k hk⟩

theorem slice_any {α : Type} {d : Kd α} {e base : Nat} {ok : Nat → Prop} {W : World} {v : Value} {xs : List α} (h : d.R e W base ok v xs) : ∃ A n c, v = .slice A n c := by
  obtain ⟨A, c, h⟩ := Kd.R_slice h
  exact ⟨A, _, c, h⟩

section
variable {base g : Nat} {next room : Int} {vr vd vt : Value} {ready data : List Int} {there : List Bool}

/-- The mark of a byte in memory. -/
theorem BufV.mark {w : World} {At : Option Addr} {ct : Nat} (h : BufV w base g next room vr vd (.slice At there.length ct) ready data there) (i : Nat) (hi : i < there.length) :
    ∃ gt o, At = some ⟨gt, o, none⟩ ∧ w.cell? ⟨gt, o + i, none⟩ = some (.bool (there.getD i false)) ∧ w.frozen? ⟨gt, o + i, none⟩ = false := by
  obtain ⟨gt, o, cap, e, _, _, _⟩ := Kd.Q_form h.t (by omega)
  injection e with e1 e2 e3
  subst e1
  have h2 := Kd.Q_cell false h.t (i : Int) (by omega) (by omega)
  rw [Int.toNat_natCast] at h2
  exact ⟨gt, o, rfl, h2.1, h2.2⟩

/-- The readable bytes have grown, in place or into a new block; the field is not yet written. -/
theorem BufV.grown_ready {w w1 : World} {v1 : Value} {ready' : List Int} (h : BufV w base g next room vr vd vt ready data there) (hV : (Kd.int .u8).R 5 w1 base (fun k => vd.ownBlock = some k → False) v1 ready') (hgr : w.grownBy w1 vr.ownBlock) (hown : v1.ownBlock = vr.ownBlock ∨ ∃ b, v1.ownBlock = some b ∧ w.heap.size ≤ b) :
    w1.heap[g]? = some (.cells #[.int .u32 next, .int .i64 room, vr, vd, vt] 51 (0, 0)) ∧ BufV (w1.setCell ⟨g, 2, none⟩ v1) base g next room v1 vd vt ready' data there ∧ Kept w (w1.setCell ⟨g, 2, none⟩ v1) (Own g vr vd vt) ∧ (∀ k, Own g v1 vd vt k → Own g vr vd vt k ∨ w.heap.size ≤ k) := by
  have hblk := blk_grown h.blk hgr (Kd.R_away (Kd.R_types h.r h.blk (by decide)) (fun _ hk => hk.2))
  have hd : (Kd.int .u8).Q 5 w1 base (fun _ => True) vd data := Kd.Q_mono (Kd.Q_grown (Kd.Q_tight rfl h.d) hgr (fun k hk e => h.sep k e.symm hk.symm)) (fun _ _ => trivial)
  have ht : Kd.bool.Q 4 w1 base (fun _ => True) vt there := Kd.Q_mono (Kd.Q_grown (Kd.Q_tight rfl h.t) hgr (fun k hk e => by
    obtain ⟨_, c1, e1⟩ := q_own h.t hk.symm
    obtain ⟨_, c2, e2⟩ := r_own h.r e.symm
    rw [e1] at e2
    injection e2 with e2
    injection e2 with _ e2
    exact absurd e2 (by decide))) (fun _ _ => trivial)
  refine ⟨hblk, ⟨blk_put hblk 2 _ rfl, h.ge, Kd.R_mono (Kd.R_far (p := ⟨g, 2, none⟩) (Kd.R_types hV hblk (by decide)) (fun _ hk => hk.2) _) (fun _ _ => trivial), Kd.Q_set hd hblk (by decide) 2 _, Kd.Q_set ht hblk (by decide) 2 _, fun k h1 h2 => hV.1 k h1 h2⟩, ?_, ?_⟩
  · exact Kept.setCell (Kept.of_grown hgr (Kept.refl w _) (fun k hk => .inl (.inr (.inl hk)))) (.inl (.inl rfl)) _
  · rintro k (rfl | hk | hk | hk)
    · exact .inl (.inl rfl)
    · rcases hown with e | ⟨b, e, hb⟩
      · exact .inl (.inr (.inl (e ▸ hk)))
      · rw [e] at hk; obtain rfl := Option.some.inj hk; exact .inr hb
    · exact .inl (.inr (.inr (.inl hk)))
    · exact .inl (.inr (.inr (.inr hk)))

theorem own_drop {A : Option Addr} {c i n m c2 : Nat} {k : Nat} (h : (Value.slice (if c = i then A else A.map (·.add (i * 1))) m c2).ownBlock = some k) : (Value.slice A n c).ownBlock = some k := by
  split at h
  · cases A with
    | none => cases h
    | some a => exact h
  · cases A with
    | none => cases h
    | some a => simp [Value.ownBlock] at h ⊢; unfold Addr.add at h; split at h <;> exact h

/-- The first bytes leave the queues. -/
theorem BufV.drop_queues {W : World} {Ad At Ad2 At2 : Option Addr} {cd ct i : Nat} (h : BufV W base g next room vr (.slice Ad data.length cd) (.slice At there.length ct) ready data there) (h1 : i ≤ data.length) (h2 : i ≤ there.length)
    (e1 : Ad2 = if cd = i then Ad else Ad.map (·.add (i * 1))) (e2 : At2 = if ct = i then At else At.map (·.add (i * 1))) :
    BufV ((W.setCell ⟨g, 3, none⟩ (.slice Ad2 (data.length - i) (cd - i))).setCell ⟨g, 4, none⟩ (.slice At2 (there.length - i) (ct - i))).drew base g next room vr (.slice Ad2 (data.length - i) (cd - i)) (.slice At2 (there.length - i) (ct - i)) ready (data.drop i) (there.drop i) ∧
    Kept W ((W.setCell ⟨g, 3, none⟩ (.slice Ad2 (data.length - i) (cd - i))).setCell ⟨g, 4, none⟩ (.slice At2 (there.length - i) (ct - i))).drew (fun k => k = g) ∧
    (∀ k, Own g vr (.slice Ad2 (data.length - i) (cd - i)) (.slice At2 (there.length - i) (ct - i)) k → Own g vr (.slice Ad data.length cd) (.slice At there.length ct) k) := by
  have o1 : ∀ k, (Value.slice Ad2 (data.length - i) (cd - i)).ownBlock = some k → (Value.slice Ad data.length cd).ownBlock = some k := by
    rw [e1]; exact fun k hk => own_drop hk
  have o2 : ∀ k, (Value.slice At2 (there.length - i) (ct - i)).ownBlock = some k → (Value.slice At there.length ct).ownBlock = some k := by
    rw [e2]; exact fun k hk => own_drop hk
  have hd := Kd.Q_drop h.d h1
  have ht := Kd.Q_drop h.t h2
  rw [show (Kd.int .u8).sz = 1 from rfl, ← e1] at hd
  rw [show Kd.bool.sz = 1 from rfl, ← e2] at ht
  clear e1 e2
  generalize Value.slice Ad2 (data.length - i) (cd - i) = v3 at *
  generalize Value.slice At2 (there.length - i) (ct - i) = v4 at *
  have hb := h.put_queues hd ht (fun k hk hk2 => h.sep k hk (o1 k hk2))
  have hk1 : Kept W (W.setCell ⟨g, 3, none⟩ v3) (fun k => k = g) := Kept.setCell (S := fun k => k = g) (p := ⟨g, 3, none⟩) (Kept.refl W _) (Or.inl rfl) v3
  have hk : Kept W ((W.setCell ⟨g, 3, none⟩ v3).setCell ⟨g, 4, none⟩ v4) (fun k => k = g) := Kept.setCell (S := fun k => k = g) (p := ⟨g, 4, none⟩) hk1 (Or.inl rfl) v4
  refine ⟨hb.below (below_drew1 (Below.refl _ _)), Kept.drew hk, ?_⟩
  rintro k (hk | hk | hk | hk)
  · exact .inl hk
  · exact .inr (.inl hk)
  · exact .inr (.inr (.inl (o1 k hk)))
  · exact .inr (.inr (.inr (o2 k hk)))

set_option maxRecDepth 100000 in
theorem add_calls (a0 a1 : Int) (w : World) : Calls Try.prog 11 #[.int .u32 a0, .int .i64 a1] w fun e w' => e = .returned (.int .u32 ((a0 + a1 % 4294967296) % 4294967296)) ∧ w' = w := by
  go_enter Try.func11, Try.ntmps11
  go_wp2
  go_ret
  exact ⟨rfl, rfl⟩

def MovePost (w0 w : World) (base g : Nat) (vr vd vt : Value) (next room : Int) (ready data : List Int) (there : List Bool) (e : Ending) (w' : World) : Prop :=
  e = .returned (.tuple #[]) ∧ Left w0 w w' base g vr vd vt ((next + lead there) % 4294967296) room (ready ++ data.take (lead there)) (data.drop (lead there)) (there.drop (lead there))

set_option maxHeartbeats 4000000 in
set_option maxRecDepth 100000 in
theorem move_calls (w0 w : World) (h : BufV w base g next room vr vd vt ready data there) (hb : Below base w0 w) (hbase : base ≤ w.heap.size) (hlen : data.length = there.length) (hmax : ready.length + data.length ≤ 100000) :
    Calls Try.prog 18 #[.pointer (some ⟨g, 0, none⟩)] w (MovePost w0 w base g vr vd vt next room ready data there) := by
  obtain ⟨Ar, cr, rfl⟩ := Kd.R_slice h.r
  obtain ⟨Ad, cd, rfl, hcd⟩ := Kd.Q_slice h.d
  obtain ⟨At, ct, rfl, hct⟩ := Kd.Q_slice h.t
  obtain ⟨⟨c0, c1, c2, c3, c4⟩, f0, f1, f2, f3, f4⟩ := h.cells
  have HH := Aside0.mk h
  have HB := Aside0.mk hb
  have HBS := Aside0.mk hbase
  have HL := Aside0.mk hlen
  have HM := Aside0.mk hmax
  have b1 : (there.length : Int) ≤ 100000 := by omega
  clear c1 f1 hb hbase hlen hmax h
  go_enter Try.func18, Try.ntmps18
  go_wp2
  go_loopg [2] (lead there) (fun kq v2 w' => ∃ i : Nat, v2 = .int .i64 i ∧ Aside0 (i + kq = lead there) ∧ Aside0 (w' = w))
  case atStart => exact ⟨0, rfl, ⟨by omega⟩, ⟨rfl⟩⟩
  case round =>
    obtain ⟨i, rfl, HI, HW⟩ := hrel
    obtain rfl := HW.out
    have hle := lead_le there
    cases gk with
    | zero =>
      have HN : Aside0 (i = lead there) := ⟨by have := HI.out; omega⟩
      have hid : i ≤ data.length := by have := HL.out; have := HN.out; omega
      have hit : i ≤ there.length := by have := HN.out; omega
      obtain ⟨hl, hc, hC⟩ := Kd.Q_reads' HH.out.d
      obtain ⟨i0, hi0, _, hsz0, _⟩ := info_parts info5
      obtain ⟨i4, hi4, _, hsz4, _⟩ := info_parts info4
      have k1 := cut_to (P := Try.prog) 47 5 .i64 Try.underlying47 hi0 Ad data.length cd (i : Int) (by omega) (by omega) hcd
      rw [Int.toNat_natCast] at k1
      have HNB : Aside0 ((ready.length + i) * 1 ≤ 140737488355328) := ⟨by have := HM.out; omega⟩
      have HT : Aside0 ((Kd.int .u8).C wr Ad i (data.take i)) := ⟨by have h_ := Kd.C_take (m := i) hC (by omega); rw [List.length_take, Nat.min_eq_left (by omega)] at h_; exact h_⟩
      obtain ⟨Ad2, hAd2⟩ : ∃ A_, A_ = (if cd = i then Ad else Ad.map (·.add (i * 1))) := ⟨_, rfl⟩
      obtain ⟨At2, hAt2⟩ : ∃ A_, A_ = (if ct = i then At else At.map (·.add (i * 1))) := ⟨_, rfl⟩
      have k3 := cut_from (P := Try.prog) 47 5 .i64 Try.underlying47 hi0 1 hsz0 Ad data.length cd (i : Int) (by omega) (by omega)
      have k4 := cut_from (P := Try.prog) 42 4 .i64 Try.underlying42 hi4 1 hsz4 At there.length ct (i : Int) (by omega) (by omega)
      rw [Int.toNat_natCast, ← hAd2] at k3
      rw [Int.toNat_natCast, ← hAt2] at k4
      have HAd := Aside0.mk hAd2
      have HAt := Aside0.mk hAt2
      clear hAd2 hAt2 hi0 hi4 hsz0 hsz4 hl hC hc
      have hid2 : (i : Int) ≤ (data.length : Int) := by omega
      have hit2 : (i : Int) ≤ (there.length : Int) := by omega
      have hstop : i = there.length ∨ (i < there.length ∧ there.getD i false = false) := by
        by_cases c : i < there.length
        · exact .inr ⟨c, by rw [HN.out]; exact lead_false there⟩
        · exact .inl (by omega)
      rcases hstop with hs | ⟨hs, hf⟩
      · have t1 : decide ((i : Int) < (there.length : Int)) = false := decide_eq_false (by omega)
        have t2 : decide (i < there.length) = false := decide_eq_false (by omega)
        clear hs
        go_wp2
        go_region_law ((refine Kd.R_append_rows_step (Kd.int .u8) (Rr := (Kd.int .u8).K wr) (w0 := w0) base (by rfl) (.tmp 25) (.tmp 31) 47 5 (.int .u8 0) 1 (by rfl) Try.underlying47 info5 rfl (by decide) (by omega) (.slice Ar ready.length cr) ready (data.take i) Ad i cd (fun k => (Value.slice Ad data.length cd).ownBlock = some k → False) (fun _ => False) (by rfl) (by rfl) (Kd.R_mono (Kd.R_tight rfl (Kd.R_drew HH.out.r)) (fun k hk h2 => HH.out.sep k hk.symm h2)) (Kd.C_drew HT.out) (fun x cs hk => hk) (fun _ hk => hk.elim) (fun k hk h2 => absurd (Kd.Q_lt HH.out.d k h2) (Nat.not_lt.mpr hk)) (below_drew1 HB.out) HBS.out (HNB.out) ?_; intro v1 w1 ha hb2 hgr hown; obtain ⟨Av, nv, cv, ev⟩ := slice_any ha; subst ev; obtain ⟨hblk, hbuf, hkp, hog⟩ := (HH.out.below (below_drew1 (Below.refl _ _))).grown_ready ha hgr hown; have d2 := (blk_cell hblk 2).trans rfl; have d3 := (blk_cell hblk 3).trans rfl; have e2 := blk_frozen hblk 2; have HBF := Aside0.mk hbuf; have HKP := Aside0.mk hkp; have HOG := Aside0.mk hog; have HB2 := Aside0.mk hb2; clear ha hb2 hgr hown hblk hbuf hkp hog))
        all_goals (
          obtain ⟨wx, hwx⟩ : ∃ wx_, wx_ = w1.setCell ⟨g, 2, none⟩ (.slice Av nv cv) := ⟨_, rfl⟩
          rw [← hwx] at HBF HKP
          have HB3 : Aside0 (Below base w0 wx) := ⟨by rw [hwx]; exact HB2.out.setCell HH.out.ge _⟩
          rw [← hwx]
          clear hwx d2 d3 e2 HB2 c0 c2 c3 c4 f0 f2 f3 f4
          obtain ⟨⟨c0, c1, c2, c3, c4⟩, f0, f1, f2, f3, f4⟩ := HBF.out.cells
          go_wp2
          go_region
          all_goals (
            obtain ⟨q1, q2, q3⟩ := HBF.out.drop_queues hid hit HAd.out HAt.out
            obtain ⟨wy, hwy⟩ : ∃ wy_, wy_ = ((wx.setCell ⟨g, 3, none⟩ (.slice Ad2 (data.length - i) (cd - i))).setCell ⟨g, 4, none⟩ (.slice At2 (there.length - i) (ct - i))).drew := ⟨_, rfl⟩
            have HB4 : Aside0 (Below base w0 wy) := ⟨by rw [hwy]; exact below_drew1 ((HB3.out.setCell HH.out.ge _).setCell HH.out.ge _)⟩
            rw [← hwy] at q1 q2
            rw [← hwy]
            have HQ1 := Aside0.mk q1
            have HQ2 := Aside0.mk q2
            have HQ3 := Aside0.mk q3
            clear hwy c0 c1 c2 c3 c4 f0 f1 f2 f3 f4 q1 q2 q3 HBF
            obtain ⟨⟨c0, c1, c2, c3, c4⟩, f0, f1, f2, f3, f4⟩ := HQ1.out.cells
            clear c1 c2 c3 c4 f1 f2 f3 f4
            go_wp2
            go_end0
            refine ⟨rfl, ?_⟩
            rw [← HN.out]
            refine ⟨_, _, _, HQ1.out.put_next, ?_, ?_, HB4.out.setCell HH.out.ge _⟩
            · exact Kept.setCell (Kept.then_ HKP.out HQ2.out (fun k hk => .inl (.inl hk))) (.inl (.inl rfl)) _
            · exact fun k hk => HOG.out k (HQ3.out k hk)))
      · obtain ⟨gt, o, eA, m1, m2⟩ := HH.out.mark i hs
        subst eA
        rw [hf] at m1
        have t1 : decide ((i : Int) < (there.length : Int)) = true := decide_eq_true (by omega)
        have t2 : decide (i < there.length) = true := decide_eq_true (by omega)
        have t3 : (0 : Int) ≤ (i : Int) := by omega
        have t4 : (i : Int) < (there.length : Int) := by omega
        clear hs hf
        go_wp2
        go_region_law ((refine Kd.R_append_rows_step (Kd.int .u8) (Rr := (Kd.int .u8).K wr) (w0 := w0) base (by rfl) (.tmp 25) (.tmp 31) 47 5 (.int .u8 0) 1 (by rfl) Try.underlying47 info5 rfl (by decide) (by omega) (.slice Ar ready.length cr) ready (data.take i) Ad i cd (fun k => (Value.slice Ad data.length cd).ownBlock = some k → False) (fun _ => False) (by rfl) (by rfl) (Kd.R_mono (Kd.R_tight rfl (Kd.R_drew HH.out.r)) (fun k hk h2 => HH.out.sep k hk.symm h2)) (Kd.C_drew HT.out) (fun x cs hk => hk) (fun _ hk => hk.elim) (fun k hk h2 => absurd (Kd.Q_lt HH.out.d k h2) (Nat.not_lt.mpr hk)) (below_drew1 HB.out) HBS.out (HNB.out) ?_; intro v1 w1 ha hb2 hgr hown; obtain ⟨Av, nv, cv, ev⟩ := slice_any ha; subst ev; obtain ⟨hblk, hbuf, hkp, hog⟩ := (HH.out.below (below_drew1 (Below.refl _ _))).grown_ready ha hgr hown; have d2 := (blk_cell hblk 2).trans rfl; have d3 := (blk_cell hblk 3).trans rfl; have e2 := blk_frozen hblk 2; have HBF := Aside0.mk hbuf; have HKP := Aside0.mk hkp; have HOG := Aside0.mk hog; have HB2 := Aside0.mk hb2; clear ha hb2 hgr hown hblk hbuf hkp hog))
        all_goals (
          obtain ⟨wx, hwx⟩ : ∃ wx_, wx_ = w1.setCell ⟨g, 2, none⟩ (.slice Av nv cv) := ⟨_, rfl⟩
          rw [← hwx] at HBF HKP
          have HB3 : Aside0 (Below base w0 wx) := ⟨by rw [hwx]; exact HB2.out.setCell HH.out.ge _⟩
          rw [← hwx]
          clear hwx d2 d3 e2 HB2 c0 c2 c3 c4 f0 f2 f3 f4
          obtain ⟨⟨c0, c1, c2, c3, c4⟩, f0, f1, f2, f3, f4⟩ := HBF.out.cells
          go_wp2
          go_region
          all_goals (
            obtain ⟨q1, q2, q3⟩ := HBF.out.drop_queues hid hit HAd.out HAt.out
            obtain ⟨wy, hwy⟩ : ∃ wy_, wy_ = ((wx.setCell ⟨g, 3, none⟩ (.slice Ad2 (data.length - i) (cd - i))).setCell ⟨g, 4, none⟩ (.slice At2 (there.length - i) (ct - i))).drew := ⟨_, rfl⟩
            have HB4 : Aside0 (Below base w0 wy) := ⟨by rw [hwy]; exact below_drew1 ((HB3.out.setCell HH.out.ge _).setCell HH.out.ge _)⟩
            rw [← hwy] at q1 q2
            rw [← hwy]
            have HQ1 := Aside0.mk q1
            have HQ2 := Aside0.mk q2
            have HQ3 := Aside0.mk q3
            clear hwy c0 c1 c2 c3 c4 f0 f1 f2 f3 f4 q1 q2 q3 HBF
            obtain ⟨⟨c0, c1, c2, c3, c4⟩, f0, f1, f2, f3, f4⟩ := HQ1.out.cells
            clear c1 c2 c3 c4 f1 f2 f3 f4
            go_wp2
            go_end0
            refine ⟨rfl, ?_⟩
            rw [← HN.out]
            refine ⟨_, _, _, HQ1.out.put_next, ?_, ?_, HB4.out.setCell HH.out.ge _⟩
            · exact Kept.setCell (Kept.then_ HKP.out HQ2.out (fun k hk => .inl (.inl hk))) (.inl (.inl rfl)) _
            · exact fun k hk => HOG.out k (HQ3.out k hk)))
    | succ k1 =>
      have hi : i < lead there := by have := HI.out; omega
      obtain ⟨gt, o, eA, m1, m2⟩ := HH.out.mark i (by omega)
      subst eA
      rw [lead_true there i hi] at m1
      have t1 : decide ((i : Int) < (there.length : Int)) = true := decide_eq_true (by omega)
      have t2 : decide (i < there.length) = true := decide_eq_true (by omega)
      have t3 : (0 : Int) ≤ (i : Int) := by omega
      have t4 : (i : Int) < (there.length : Int) := by omega
      clear hi hle
      go_wp2
      go_roundg k1
      case measure => omega
      case rel => exact ⟨i + 1, by first | rfl | go_num, ⟨by have := HI.out; omega⟩, ⟨rfl⟩⟩
end
end Go.Proofs.Ytpanenghlpipkaa.Recv
