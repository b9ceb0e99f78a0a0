/- The walk of RecvEdge. -/
import Derived.Test.YtpanenghlpipkaaHas
namespace Go.Proofs.Ytpanenghlpipkaa.Recv
open Go.RowKit Go.Proofs.Ytpanenghlpipkaa.PRecvOrder Go.Proofs.YtpanenghlpipkaaW.PrintWords Go.Proofs.YtpanenghlpipkaaW.PrintLast Go.Proofs.YtpanenghlpipkaaW.PrintMore
open Go.Proofs.Ytpanenghlpipkaa.Mine
set_option linter.unusedVariables false
set_option linter.unusedSimpArgs false

theorem addq_calls (a0 a1 : Int) (w : World) : Calls Try.prog 11 #[.int .u32 a0, .int .i64 a1] w fun e w' => e = .returned (.int .u32 (addq a0 a1)) ∧ w' = w := by
  have h : addq a0 a1 = (a0 + a1 % 4294967296) % 4294967296 := by unfold addq; omega
  rw [h]
  exact add_calls a0 a1 w

/-- The last number that can be stored. -/
def RB.edge (b : RB) : Int := addq b.next (b.room - b.ready.length)
theorem RB.edge_put {b : RB} (h : b.Ok) (x : Int) (s : ByteArray) : (b.put x s).edge = b.edge := by
  have hs := (h.stored x s).1
  have hl := lead_le (b.stored x s).2.1
  unfold RB.edge RB.put
  split
  · rfl
  · simp only [addq, List.length_append, List.length_take]
    rw [Nat.min_eq_left (by omega)]
    omega
theorem RB.edge_took {b : RB} (n : Nat) (hn : n ≤ b.ready.length) : (b.took n).edge = addq b.edge (n : Int) := by
  unfold RB.edge RB.took
  simp only [addq, List.length_drop]
  omega

theorem edge11 (b : RB) (w : World) : Calls Try.prog 11 #[.int .u32 b.next, .int .i64 (b.room - (b.ready.length : Int))] w fun e w' => e = .returned (.int .u32 b.edge) ∧ w' = w := addq_calls _ _ w

theorem strOfNums_size (l : List Int) : (strOfNums l).size = l.length := by
  unfold strOfNums
  simp [ByteArray.size]

set_option maxHeartbeats 8000000 in
set_option maxRecDepth 100000 in
theorem edge_calls (w : World) (first room : Int) (A0 A1 A2 : Option Addr) (k0 k1 k2 : Nat) (l0 l2 : List Int) (l1 : List ByteArray) (h0 : (Kd.int .i64).C w A0 l0.length l0) (h1 : Kd.string.C w A1 l1.length l1) (h2 : (Kd.int .i64).C w A2 l2.length l2) :
    Calls Try.prog 5 #[.int .u32 first, .int .i64 room, .slice A0 l0.length k0, .slice A1 l1.length k1, .slice A2 l2.length k2] w (fun e w' => e = .returned (.bool true) ∧ Below w.heap.size w w') := by
  have HF := Aside0.mk (fact_calls w)
  have hr := @rst_bd room 300 (by decide)
  have HR0 := Aside0.mk h0
  have HR1 := Aside0.mk h1
  have HR2 := Aside0.mk h2
  clear h0 h1 h2
  have q0 := rst room 300
  go_enter Try.func5, Try.ntmps5
  go_wp2_with (first
    | (go_at_call 9; refine HF.out.mono ?_; rintro e w1 ⟨rfl, hb⟩; have HL := Aside0.mk hb; clear hb)
    | (go_at_call 12; with_reducible refine (rest_calls room 300 _ (by decide) (by decide)).mono ?_; rintro e w' ⟨rfl, hw_⟩; obtain rfl := hw_.symm; clear hw_)
    | (go_at_call 8; with_reducible refine (new_has w w1 HL.out first (rst room 300 + 1) (by omega) (by omega)).mono ?_; rintro e w2 ⟨g, rfl, _, _, hh⟩; obtain ⟨b, hb⟩ : ∃ b_, b_ = (⟨first, rst room 300 + 1, [], [], []⟩ : RB) := ⟨_, rfl⟩; rw [← hb] at hh; have hok := ok_new first (rst room 300 + 1) (by omega) (by omega); rw [← hb] at hok; have HOK := Aside0.mk hok; have HB := Aside0.mk hh; clear hh hok hb HL)
    | (go_at_call 15; with_reducible refine (next_has HB.out).mono ?_; rintro e w' ⟨rfl, hw_⟩; obtain rfl := hw_.symm; clear hw_)
    | (go_at_call 16; with_reducible refine (window_has HB.out HOK.out).mono ?_; rintro e w' ⟨rfl, nd, hw_⟩; have hB := HB.out.drewN nd; rw [← hw_] at hB; clear HB hw_; have HB := Aside0.mk hB; clear hB)
    | (go_at_call 11; with_reducible refine (edge11 b _).mono ?_; rintro e w' ⟨rfl, hw_⟩; obtain rfl := hw_.symm; clear hw_))
  obtain ⟨n, hn⟩ : ∃ n_, n_ = min (min l0.length l1.length) (min l2.length 20) := ⟨_, rfl⟩
  have HN := Aside0.mk hn
  clear hn
  go_loopg [13, 14] n (fun kq v13 v14 w' => ∃ (i : Nat) (b : RB), v13 = .int .u32 b.edge ∧ v14 = .int .i64 i ∧ Aside0 (i + kq = n) ∧ Aside0 b.Ok ∧ Aside0 (Has w w' g b))
  case atStart => exact ⟨0, b, rfl, rfl, ⟨by omega⟩, HOK, HB⟩
  case round =>
    clear HOK HB
    obtain ⟨i, b, rfl, rfl, HI, HOK, HB⟩ := hrel
    cases gk with
    | zero =>
      by_cases d0 : i < l0.length
      · have d0b : decide ((i : Int) < (l0.length : Int)) = true := decide_eq_true (by omega)
        have d0c : decide (i < l0.length) = true := decide_eq_true d0
        by_cases d1 : i < l1.length
        · have d1b : decide ((i : Int) < (l1.length : Int)) = true := decide_eq_true (by omega)
          have d1c : decide (i < l1.length) = true := decide_eq_true d1
          by_cases d2 : i < l2.length
          · have d2b : decide ((i : Int) < (l2.length : Int)) = true := decide_eq_true (by omega)
            have d2c : decide (i < l2.length) = true := decide_eq_true d2
            have d3b : decide ((i : Int) < 20) = false := decide_eq_false (by have := HI.out; have := HN.out; omega)
            have d3c : decide (i < 20) = false := decide_eq_false (by have := HI.out; have := HN.out; omega)
            clear d0 d1 d2
            go_wp2
            go_ret
            exact ⟨rfl, HB.out.below⟩
          · have d2b : decide ((i : Int) < (l2.length : Int)) = false := decide_eq_false (by omega)
            have d2c : decide (i < l2.length) = false := decide_eq_false d2
            clear d0 d1 d2
            go_wp2
            go_ret
            exact ⟨rfl, HB.out.below⟩
        · have d1b : decide ((i : Int) < (l1.length : Int)) = false := decide_eq_false (by omega)
          have d1c : decide (i < l1.length) = false := decide_eq_false d1
          clear d0 d1
          go_wp2
          go_ret
          exact ⟨rfl, HB.out.below⟩
      · have d0b : decide ((i : Int) < (l0.length : Int)) = false := decide_eq_false (by omega)
        have d0c : decide (i < l0.length) = false := decide_eq_false d0
        clear d0
        go_wp2
        go_ret
        exact ⟨rfl, HB.out.below⟩
    | succ k3 =>
      have hi : i < n := by have := HI.out; omega
      have i0 : i < l0.length := by have := HN.out; omega
      have i1 : i < l1.length := by have := HN.out; omega
      have i2 : i < l2.length := by have := HN.out; omega
      have i3 : i < 20 := by have := HN.out; omega
      have d0b : decide ((i : Int) < (l0.length : Int)) = true := decide_eq_true (by omega)
      have d0c : decide (i < l0.length) = true := decide_eq_true i0
      have d1b : decide ((i : Int) < (l1.length : Int)) = true := decide_eq_true (by omega)
      have d1c : decide (i < l1.length) = true := decide_eq_true i1
      have d2b : decide ((i : Int) < (l2.length : Int)) = true := decide_eq_true (by omega)
      have d2c : decide (i < l2.length) = true := decide_eq_true i2
      have d3b : decide ((i : Int) < 20) = true := decide_eq_true (by omega)
      have d3c : decide (i < 20) = true := decide_eq_true i3
      have t7 : wrap64 ((i : Int) + 1) = ((i + 1 : Nat) : Int) := by simp only [wrap64]; omega
      obtain ⟨ad0, e0, x0⟩ := Kd.at_int HR0.out (i : Int) (by omega) (by omega)
      obtain ⟨ad1, e1, x1⟩ := Kd.at_string HR1.out (i : Int) (by omega) (by omega)
      obtain ⟨ad2, e2, x2⟩ := Kd.at_int HR2.out (i : Int) (by omega) (by omega)
      rw [Int.toNat_natCast] at x0 x1 x2
      cases e0
      cases e1
      cases e2
      obtain ⟨x, hx⟩ : ∃ x_, x_ = rd l0 (i : Int) := ⟨_, rfl⟩
      obtain ⟨s, hs⟩ : ∃ s_, s_ = rdOf ByteArray.empty l1 (i : Int) := ⟨_, rfl⟩
      obtain ⟨z, hz⟩ : ∃ z_, z_ = rd l2 (i : Int) := ⟨_, rfl⟩
      rw [← hx] at x0
      rw [← hs] at x1
      rw [← hz] at x2
      have HX0 := Aside0.mk x0
      have HX1 := Aside0.mk x1
      have HX2 := Aside0.mk x2
      have y0 := (HB.out.below.cell (World.block_lt_of_cell? w _ x0)).trans x0
      have y1 := (HB.out.below.cell (World.block_lt_of_cell? w _ x1)).trans x1
      clear x0 x1 x2 hx hs hz hi
      have p0 : (0 : Int) ≤ (i : Int) := by omega
      have p1 : (i : Int) < (l0.length : Int) := by omega
      have p2 : (i : Int) < (l1.length : Int) := by omega
      have p3 : (i : Int) < (l2.length : Int) := by omega
      go_wp2
      have HBr := Aside0.mk HB.out.drew
      have y0r : wr.drew.cell? (ad0.add i) = some (.int .i64 x) := y0
      have y1r : wr.drew.cell? (ad1.add i) = some (.string s) := y1
      refine start_ (n := 13) (S := fun w' => w'.cell? (ad0.add i) = some (.int .i64 x) ∧ w'.cell? (ad1.add i) = some (.string s)) (ds := []) #[false, false, false, false, false, false, false, false, false, false, false, false, false] (by kernel_rfl) rfl rfl ⟨y0r, y1r⟩ (fun hHeld => ?_)
      clear y0 y1 HB
      generalize wr.drew = wd at HBr y0r y1r hHeld ⊢
      refine pure_ (i := 0) (N := some 60) (v := ?_) (a' := ?_) #[true, false, false, false, false, false, false, false, false, false, false, false, false] rfl rfl (by kernel_rfl) (fun _ _ _ h => h) (Or.inl ⟨by rfl, ?_⟩) ?_ ?_
      rotate_left
      · intro w'
        go_simp
        with_reducible rfl
      rotate_left
      · simp only [Act.put, List.setIfInBounds_toArray, List.set_cons_zero, List.set_cons_succ, i64_w, i32_w]
        rfl
      refine pure_ (i := 1) (N := some 61) (v := ?_) (a' := ?_) #[true, true, false, false, false, false, false, false, false, false, false, false, false] rfl rfl (by kernel_rfl) (fun _ _ _ h => h) (Or.inl ⟨by rfl, ?_⟩) ?_ ?_
      rotate_left
      · intro w'
        go_simp
        with_reducible rfl
      rotate_left
      · simp only [Act.put, List.setIfInBounds_toArray, List.set_cons_zero, List.set_cons_succ, i64_w, i32_w]
        rfl
      refine pure_ (i := 2) (N := some 62) (v := ?_) (a' := ?_) #[true, true, true, false, false, false, false, false, false, false, false, false, false] rfl rfl (by kernel_rfl) (fun _ _ _ h => h) (Or.inl ⟨by rfl, ?_⟩) ?_ ?_
      rotate_left
      · intro w'
        go_simp
        with_reducible rfl
      rotate_left
      · simp only [Act.put, List.setIfInBounds_toArray, List.set_cons_zero, List.set_cons_succ, i64_w, i32_w]
        rfl
      refine pure_ (i := 3) (N := some 63) (v := ?_) (a' := ?_) #[true, true, true, true, false, false, false, false, false, false, false, false, false] rfl rfl (by kernel_rfl) (fun _ _ _ h => h) (Or.inl ⟨by rfl, ?_⟩) ?_ ?_
      rotate_left
      · intro w'
        go_simp
        with_reducible rfl
      rotate_left
      · simp only [Act.put, List.setIfInBounds_toArray, List.set_cons_zero, List.set_cons_succ, i64_w, i32_w]
        rfl
      refine pure_ (i := 4) (N := some 64) (v := ?_) (a' := ?_) #[true, true, true, true, true, false, false, false, false, false, false, false, false] rfl rfl (by kernel_rfl) (fun _ _ _ h => h) (Or.inl ⟨by rfl, ?_⟩) ?_ ?_
      rotate_left
      · intro w'
        go_simp
        with_reducible rfl
      rotate_left
      · simp only [Act.put, List.setIfInBounds_toArray, List.set_cons_zero, List.set_cons_succ, i64_w, i32_w]
        rfl
      refine pure_ (i := 8) (N := some 68) (v := ?_) (a' := ?_) #[true, true, true, true, true, false, false, false, true, false, false, false, false] rfl rfl (by kernel_rfl) (fun _ _ _ h => h) (Or.inl ⟨by rfl, ?_⟩) ?_ ?_
      rotate_left
      · intro w'
        go_simp
        with_reducible rfl
      rotate_left
      · simp only [Act.put, List.setIfInBounds_toArray, List.set_cons_zero, List.set_cons_succ, i64_w, i32_w]
        rfl
      refine pure_ (i := 9) (N := some 69) (v := ?_) (a' := ?_) #[true, true, true, true, true, false, false, false, true, true, false, false, false] rfl rfl (by kernel_rfl) (fun _ _ _ h => h) (Or.inl ⟨by rfl, ?_⟩) ?_ ?_
      rotate_left
      · intro w'
        go_simp
        with_reducible rfl
      rotate_left
      · simp only [Act.put, List.setIfInBounds_toArray, List.set_cons_zero, List.set_cons_succ, i64_w, i32_w]
        rfl
      refine pure_ (i := 10) (N := some 70) (v := ?_) (a' := ?_) #[true, true, true, true, true, false, false, false, true, true, true, false, false] rfl rfl (by kernel_rfl) (fun _ _ _ h => h) (Or.inl ⟨by rfl, ?_⟩) ?_ ?_
      rotate_left
      · intro w'
        go_simp
        with_reducible rfl
      rotate_left
      · simp only [Act.put, List.setIfInBounds_toArray, List.set_cons_zero, List.set_cons_succ, i64_w, i32_w]
        rfl
      refine take_ (i := 5) (N := some 65) (v := ?_) (a' := ?_) #[true, true, true, true, true, true, false, false, true, true, true, false, false] rfl rfl (by kernel_rfl) (fun _ _ _ h => h) (Or.inl ⟨by rfl, ?_⟩) hHeld ?_ ?_
      rotate_left
      · rintro w' ⟨s0, s1⟩
        go_simp
        with_reducible rfl
      rotate_left
      · simp only [Act.put, List.setIfInBounds_toArray, List.set_cons_zero, List.set_cons_succ, i64_w, i32_w]
        rfl
      refine take_ (i := 11) (N := some 71) (v := ?_) (a' := ?_) #[true, true, true, true, true, true, false, false, true, true, true, true, false] rfl rfl (by kernel_rfl) (fun _ _ _ h => h) (Or.inl ⟨by rfl, ?_⟩) hHeld ?_ ?_
      rotate_left
      · rintro w' ⟨s0, s1⟩
        go_simp
        with_reducible rfl
      rotate_left
      · simp only [Act.put, List.setIfInBounds_toArray, List.set_cons_zero, List.set_cons_succ, i64_w, i32_w]
        rfl
      refine one_ (i := 6) (N := some 66) #[true, true, true, true, true, true, true, false, true, true, true, true, false] rfl rfl (by kernel_rfl) (by decide) (fun K hK => ?_)
      refine goes_ Try.func12 (by kernel_rfl) rfl #[.int .i64 x, .int .i64 400] (by rfl) rfl rfl (by (try simp only [List.map_toArray, List.map_cons, List.map_nil]); first | done | rfl) ?_
      with_reducible refine (rest_calls x 400 _ (by decide) (by decide)).mono ?_
      rintro e w' ⟨rfl, hw_⟩; obtain rfl := hw_.symm; clear hw_
      refine ⟨_, rfl, ?_⟩
      refine hK.out _ _ ⟨y0r, y1r⟩ (fun hHeld => ?_)
      clear hK K
      refine norm_ (a' := ?_) ?_ ?_
      rotate_left
      · show Act.put _ (some 66) _ = _
        simp only [Act.put, List.setIfInBounds_toArray, List.set_cons_zero, List.set_cons_succ, i64_w, i32_w]
        rfl
      refine one_ (i := 7) (N := some 67) #[true, true, true, true, true, true, true, true, true, true, true, true, false] rfl rfl (by kernel_rfl) (by decide) (fun K hK => ?_)
      refine goes_ Try.func11 (by kernel_rfl) rfl #[.int .u32 first, .int .i64 (rst x 400)] (by rfl) rfl rfl (by (try simp only [List.map_toArray, List.map_cons, List.map_nil]); first | done | rfl) ?_
      with_reducible refine (addq_calls first (rst x 400) _).mono ?_
      rintro e w' ⟨rfl, hw_⟩; obtain rfl := hw_.symm; clear hw_
      refine ⟨_, rfl, ?_⟩
      refine hK.out _ _ ⟨y0r, y1r⟩ (fun hHeld => ?_)
      clear hK K
      refine norm_ (a' := ?_) ?_ ?_
      rotate_left
      · show Act.put _ (some 67) _ = _
        simp only [Act.put, List.setIfInBounds_toArray, List.set_cons_zero, List.set_cons_succ, i64_w, i32_w]
        rfl
      refine one_ (i := 12) (N := some 72) #[true, true, true, true, true, true, true, true, true, true, true, true, true] rfl rfl (by kernel_rfl) (by decide) (fun K hK => ?_)
      refine goes_ Try.func10 (by kernel_rfl) rfl #[.pointer (some ⟨g, 0, none⟩), .int .u32 (addq first (rst x 400)), .string s] (by rfl) rfl rfl (by (try simp only [List.map_toArray, List.map_cons, List.map_nil]); first | done | rfl) ?_
      with_reducible refine (in_has HBr.out HOK.out (addq first (rst x 400)) s).mono ?_
      rintro e w3 ⟨rfl, hB⟩
      have HB := Aside0.mk hB
      clear hB HBr y0r y1r
      refine ⟨_, rfl, ?_⟩
      refine hK.out _ _ ⟨(HB.out.below.cell (World.block_lt_of_cell? w _ HX0.out)).trans HX0.out, (HB.out.below.cell (World.block_lt_of_cell? w _ HX1.out)).trans HX1.out⟩ (fun hHeld => ?_)
      clear hK K
      refine norm_ (a' := ?_) ?_ ?_
      rotate_left
      · show Act.put _ (some 72) _ = _
        simp only [Act.put, List.setIfInBounds_toArray, List.set_cons_zero, List.set_cons_succ, i64_w, i32_w]
        rfl
      refine done_ (by kernel_rfl) ?_
      have hok1 := HOK.out.put (addq first (rst x 400)) s
      have hE := RB.edge_put HOK.out (addq first (rst x 400)) s
      obtain ⟨b1, hb1⟩ : ∃ b1_, b1_ = b.put (addq first (rst x 400)) s := ⟨_, rfl⟩
      rw [← hb1] at hE hok1 HB
      rw [← hE]
      clear HOK
      have HOK := Aside0.mk hok1
      clear hok1 hE hb1
      have hz := @rst_bd z 100 (by decide)
      have HZ := Aside0.mk hz
      clear hz
      go_wp2_with (first
        | (go_at_call 15; with_reducible refine (next_has HB.out).mono ?_; rintro e w' ⟨rfl, hw_⟩; obtain rfl := hw_.symm; clear hw_)
        | (go_at_call 16; with_reducible refine (window_has HB.out HOK.out).mono ?_; rintro e w' ⟨rfl, nd, hw_⟩; have hB := HB.out.drewN nd; rw [← hw_] at hB; clear HB hw_; have HB := Aside0.mk hB; clear hB; have y2 := (HB.out.below.cell (World.block_lt_of_cell? w _ HX2.out)).trans HX2.out)
        | (go_at_call 12; with_reducible refine (rest_calls z 100 _ (by decide) (by decide)).mono ?_; rintro e w' ⟨rfl, hw_⟩; obtain rfl := hw_.symm; clear hw_)
        | (go_at_call 17; with_reducible refine (read_has HB.out HOK.out (rst z 100) HZ.out.1).mono ?_; rintro e w4 ⟨rfl, hB⟩; obtain ⟨m, hm⟩ : ∃ m_, m_ = min (rst z 100).toNat b1.ready.length := ⟨_, rfl⟩; rw [← hm] at hB ⊢; obtain ⟨str, hstr⟩ : ∃ str_, str_ = strOfNums (b1.ready.take m) := ⟨_, rfl⟩; rw [← hstr]; have hsz : str.size = m := (by rw [hstr, strOfNums_size, List.length_take]; omega); have hE := RB.edge_took (b := b1) m (by omega); have hok := HOK.out.took m; obtain ⟨b2, hb2⟩ : ∃ b2_, b2_ = b1.took m := ⟨_, rfl⟩; rw [← hb2] at hE hok hB; rw [← hsz] at hE; clear HB HOK hm hstr hsz hb2; have HB := Aside0.mk hB; have HOK := Aside0.mk hok; have HE := Aside0.mk hE; clear hB hok hE)
        | (go_at_call 11; with_reducible refine (edge11 b1 _).mono ?_; rintro e w' ⟨rfl, hw_⟩; obtain rfl := hw_.symm; clear hw_)
        | (go_at_call 11; with_reducible refine (edge11 b2 _).mono ?_; rintro e w' ⟨rfl, hw_⟩; obtain rfl := hw_.symm; clear hw_)
        | (go_at_call 11; with_reducible refine (addq_calls b1.edge (str.size : Int) _).mono ?_; rintro e w' ⟨rfl, hw_⟩; obtain rfl := hw_.symm; clear hw_; rw [← HE.out]))
      go_roundg k3
      case measure => omega
      case rel => exact ⟨i + 1, b2, rfl, by first | rw [t7] | rfl | simp, ⟨by have := HI.out; omega⟩, HOK, HB⟩
end Go.Proofs.Ytpanenghlpipkaa.Recv
