/- The walk of RecvOrder. -/
import Derived.Test.YtpanenghlpipkaaEdge
import Derived.Test.YtpanenghlpipkaaMarks
namespace Go.Proofs.Ytpanenghlpipkaa.Recv
open Go.RowKit Go.Proofs.Ytpanenghlpipkaa.PRecvOrder Go.Proofs.YtpanenghlpipkaaW.PrintWords Go.Proofs.YtpanenghlpipkaaW.PrintLast Go.Proofs.YtpanenghlpipkaaW.PrintMore
open Go.Proofs.Ytpanenghlpipkaa.Mine
set_option linter.unusedVariables false
set_option linter.unusedSimpArgs false

theorem order_bound {n l2 l3 L i : Nat} (hn : n = if 0 < L then min (min l2 l3) 40 else 0) (hi : i = n) :
    ∀ (K : Prop), (((decide ((i : Int) < (l2 : Int)) = false ∧ decide (i < l2) = false) → K) ∧ ((decide ((i : Int) < (l2 : Int)) = true ∧ decide (i < l2) = true) → (decide ((i : Int) < (l3 : Int)) = false ∧ decide (i < l3) = false) → K) ∧
      ((decide ((i : Int) < (l2 : Int)) = true ∧ decide (i < l2) = true) → (decide ((i : Int) < (l3 : Int)) = true ∧ decide (i < l3) = true) → (decide ((i : Int) < 40) = false ∧ decide (i < 40) = false) → K) ∧
      ((decide ((i : Int) < (l2 : Int)) = true ∧ decide (i < l2) = true) → (decide ((i : Int) < (l3 : Int)) = true ∧ decide (i < l3) = true) → (decide ((i : Int) < 40) = true ∧ decide (i < 40) = true) → (decide ((0 : Int) < (L : Int)) = false ∧ decide (0 < L) = false) → K)) → K := by
  intro K ⟨k1, k2, k3, k4⟩
  by_cases d0 : i < l2
  · have e0 : (decide ((i : Int) < (l2 : Int)) = true ∧ decide (i < l2) = true) := ⟨decide_eq_true (by omega), decide_eq_true d0⟩
    by_cases d1 : i < l3
    · have e1 : (decide ((i : Int) < (l3 : Int)) = true ∧ decide (i < l3) = true) := ⟨decide_eq_true (by omega), decide_eq_true d1⟩
      by_cases d2 : i < 40
      · refine k4 e0 e1 ⟨decide_eq_true (by omega), decide_eq_true d2⟩ ?_
        have hL : ¬ 0 < L := by
          intro hL
          rw [if_pos hL] at hn
          omega
        exact ⟨decide_eq_false (by omega), decide_eq_false hL⟩
      · exact k3 e0 e1 ⟨decide_eq_false (by omega), decide_eq_false d2⟩
    · exact k2 e0 ⟨decide_eq_false (by omega), decide_eq_false d1⟩
  · exact k1 ⟨decide_eq_false (by omega), decide_eq_false d0⟩

attribute [local go_sem] max2_int min2_int max_two min_two
set_option maxHeartbeats 8000000 in
set_option maxRecDepth 100000 in
theorem order_calls (w : World) (first : Int) (s : ByteArray) (A2 A3 : Option Addr) (k2 k3 : Nat) (l2 l3 : List Int) (h2 : (Kd.int .i64).C w A2 l2.length l2) (h3 : (Kd.int .i64).C w A3 l3.length l3) (hf : 0 ≤ first ∧ first ≤ 4294967295) (hs : s.size ≤ 9223372036854775807) :
    Calls Try.prog 4 #[.int .u32 first, .string s, .slice A2 l2.length k2, .slice A3 l3.length k3] w (fun e w' => e = .returned (.bool true) ∧ Below w.heap.size w w') := by
  have HR2 := Aside0.mk h2
  have HR3 := Aside0.mk h3
  have HF := Aside0.mk hf
  clear hf h2 h3
  obtain ⟨n, hn⟩ : ∃ n_, n_ = min s.size 200 := ⟨_, rfl⟩
  have h1 : (if (200 : Int) < (s.size : Int) then 200 else (s.size : Int)) = (n : Int) := by rw [hn]; split <;> omega
  have h2 : min (s.size : Int) 200 = (n : Int) := by rw [hn]; omega
  have e1 : (s.extract 0 n).size = n := by rw [ByteArray.size_extract]; omega
  have b1 : (n : Int) ≤ (s.size : Int) := by omega
  have b3 : n ≤ s.size := by omega
  have HN : Aside0 (n ≤ 200) := ⟨by omega⟩
  have b4 : (n : Int) ≤ 200 := by omega
  clear hn
  have kmk := fun W => print_make_int (P := Try.prog) 42 4 (.bool false) 1 Try.underlying42 info4 rfl (by decide) (n : Int) (by omega) (by have := HN.out; omega) W
  rw [Int.toNat_natCast] at kmk
  go_enter Try.func4, Try.ntmps4
  go_wp2_with (first
    | (go_at_call 8; with_reducible refine (new_has w w (Below.refl _ _) first 1000 (by decide) (by decide)).mono ?_; rintro e w2 ⟨g, rfl, _, _, hh⟩; have HB := Aside0.mk hh; clear hh)
    | (go_at_call 9; refine (fact_calls _).mono ?_; rintro e w3 ⟨rfl, hb_⟩; have hB := HB.out.elder hb_; clear HB hb_; have HB := Aside0.mk hB; clear hB))
  clear h1 h2 b1 b3 hs kmk
  generalize s.extract 0 n = s1 at e1 ⊢
  subst e1
  obtain ⟨G, hG⟩ : ∃ G_, G_ = w3.heap.size := ⟨_, rfl⟩
  have hB := HB.out.marks s1.size
  rw [← hG] at hB ⊢
  generalize w3.alloc (.cells (madeCells #[.bool false] s1.size) 4) = w4 at hB ⊢
  clear HB hG
  have hO := order_new first HF.out s1
  obtain ⟨b, hb⟩ : ∃ b_, b_ = (⟨first, 1000, [], [], []⟩ : RB) := ⟨_, rfl⟩
  rw [← hb] at hB hO
  obtain ⟨L, hL⟩ : ∃ L_, L_ = List.replicate s1.size false := ⟨_, rfl⟩
  rw [← hL] at hB hO
  have HB := Aside0.mk hB
  have HO := Aside0.mk hO
  clear hB hO hb hL
  obtain ⟨n, hn⟩ : ∃ n_, n_ = if 0 < s1.size then min (min l2.length l3.length) 40 else 0 := ⟨_, rfl⟩
  have HNN := Aside0.mk hn
  clear hn
  go_loopg [12] n (fun kq v12 w' => ∃ (i : Nat) (b : RB) (L : List Bool), v12 = .int .i64 i ∧ Aside0 (i + kq = n) ∧ Aside0 (Order first s1 b L) ∧ Aside0 (HasG w w' g b G L))
  case atStart => exact ⟨0, b, L, rfl, ⟨by omega⟩, HO, HB⟩
  case round =>
    clear HO HB
    obtain ⟨i, b, L, rfl, HI, HO, HB⟩ := hrel
    cases gk with
    | zero =>
      refine order_bound HNN.out (by have := HI.out; omega : i = n) _ ⟨?_, ?_, ?_, ?_⟩
      all_goals (
        intros
        go_split_ands
        go_wp2
        have hd := HO.out.done
        have HD := Aside0.mk hd
        clear hd
        obtain ⟨N, hN⟩ : ∃ N_, N_ = lead L := ⟨_, rfl⟩
        have HNL := Aside0.mk hN
        clear hN
        go_loopg [16] N (fun kq v16 w' => ∃ (j : Nat), v16 = .int .i64 j ∧ Aside0 (j + kq = N) ∧ Aside0 (HasG w w' g b G L))
        case atStart => exact ⟨0, rfl, ⟨by omega⟩, HB⟩
        case round =>
          clear HB
          obtain ⟨j, rfl, HJ, HB⟩ := hrel
          cases gk with
          | zero =>
            obtain rfl : j = N := by have := HJ.out; omega
            clear HJ
            have HJS : Aside0 (j ≤ s1.size) := ⟨by rw [HNL.out]; exact HD.out.2.1⟩
            have hrd : strOfNums (b.ready.take (min (1000 : Int).toNat b.ready.length)) = s1.extract 0 j := by
              have h1 := HD.out.1
              have h2 : b.ready.length = j := by rw [h1, List.length_take, bytesOf_length, ← HNL.out]; have := HJS.out; omega
              rw [h2, show min (1000 : Int).toNat j = j by have := HJS.out; have := HN.out; omega, ← h2, List.take_length, h2, h1, ← HNL.out, strOfNums_take]
            have HRD := Aside0.mk hrd
            have HNX : Aside0 (b.next = addq first (j : Int)) := ⟨by rw [HNL.out]; exact HD.out.2.2⟩
            have HOK : Aside0 b.Ok := ⟨HO.out.inv.ok⟩
            clear hrd HD
            have hcond : ∀ (K : Prop), (((decide ((j : Int) < (s1.size : Int)) = false ∧ decide (j < s1.size) = false) → K) ∧ ((decide ((j : Int) < (s1.size : Int)) = true ∧ decide (j < s1.size) = true ∧ wr.cell? ⟨G, j, none⟩ = some (.bool false) ∧ (j : Int) < (s1.size : Int)) → K)) → K := by
              intro K hK
              by_cases hc : j < s1.size
              · refine hK.2 ⟨decide_eq_true (by omega), decide_eq_true hc, ?_, by omega⟩
                have h1 := HB.out.cell j (by rw [HO.out.len]; exact hc)
                have h2 : L.getD j false = false := by rw [HNL.out]; exact lead_false L
                rw [h2] at h1
                exact h1
              · exact hK.1 ⟨decide_eq_false (by omega), decide_eq_false hc⟩
            have q0 : (0 : Int) ≤ (j : Int) := by omega
            have q1 : (j : Int) ≤ (s1.size : Int) := by have := HJS.out; omega
            have q2 : j ≤ s1.size := HJS.out
            refine hcond _ ⟨?_, ?_⟩
            all_goals (
              intros
              clear hcond
              go_split_ands
              go_wp2_with fail
              refine (read_has HB.out.one HOK.out 1000 (by decide)).mono ?_
              rw [HRD.out]
              generalize min (1000 : Int).toNat b.ready.length = mm
              have HNX2 : Aside0 ((b.took mm).next = addq first (j : Int)) := ⟨HNX.out⟩
              generalize b.took mm = bt at HNX2
              rintro e w8 ⟨rfl, hB⟩
              clear HB
              have HB := Aside0.mk hB
              clear hB
              simp only []
              go_wp2_with fail
              refine (next_has HB.out).mono ?_
              rw [HNX2.out]
              rintro e w' ⟨rfl, hw_⟩
              obtain rfl := hw_.symm
              clear hw_
              simp only []
              go_wp2_with (go_at_call 11; with_reducible refine (addq_calls first (j : Int) _).mono ?_; rintro e w' ⟨rfl, hw_⟩; obtain rfl := hw_.symm; clear hw_)
              go_ret
              exact ⟨rfl, HB.out.below⟩)
          | succ k4 =>
            have hj : j < lead L := by have := HJ.out; have := HNL.out; omega
            have hjs : j < s1.size := by have := HD.out.2.1; omega
            have c1 := HB.out.cell j (by rw [HO.out.len]; exact hjs)
            rw [lead_true L j hj] at c1
            have d1 : decide ((j : Int) < (s1.size : Int)) = true := decide_eq_true (by omega)
            have d2 : decide (j < s1.size) = true := decide_eq_true hjs
            have q0 : (0 : Int) ≤ (j : Int) := by omega
            have q1 : (j : Int) < (s1.size : Int) := by omega
            have t7 : wrap64 ((j : Int) + 1) = ((j + 1 : Nat) : Int) := by simp only [wrap64]; omega
            clear hj hjs
            go_wp2
            go_roundg k4
            case measure => omega
            case rel => exact ⟨j + 1, by first | rw [t7] | rfl | simp, ⟨by have := HJ.out; omega⟩, HB⟩)
    | succ k3 =>
      have hi : i < n := by have := HI.out; omega
      have hsz : 0 < s1.size := by
        apply Classical.byContradiction
        intro hc
        have := HNN.out
        rw [if_neg hc] at this
        omega
      have hn2 : n = min (min l2.length l3.length) 40 := by have := HNN.out; rw [if_pos hsz] at this; exact this
      have i2 : i < l2.length := by omega
      have i3 : i < l3.length := by omega
      have i4 : i < 40 := by omega
      have d2b : decide ((i : Int) < (l2.length : Int)) = true := decide_eq_true (by omega)
      have d2c : decide (i < l2.length) = true := decide_eq_true i2
      have d3b : decide ((i : Int) < (l3.length : Int)) = true := decide_eq_true (by omega)
      have d3c : decide (i < l3.length) = true := decide_eq_true i3
      have d4b : decide ((i : Int) < 40) = true := decide_eq_true (by omega)
      have d4c : decide (i < 40) = true := decide_eq_true i4
      have d5b : decide ((0 : Int) < (s1.size : Int)) = true := decide_eq_true (by omega)
      have d5c : decide (0 < s1.size) = true := decide_eq_true hsz
      have HT7 : Aside0 (wrap64 ((i : Int) + 1) = ((i + 1 : Nat) : Int)) := ⟨by simp only [wrap64]; omega⟩
      obtain ⟨ad2, e2, x2⟩ := Kd.at_int HR2.out (i : Int) (by omega) (by omega)
      obtain ⟨ad3, e3, x3⟩ := Kd.at_int HR3.out (i : Int) (by omega) (by omega)
      rw [Int.toNat_natCast] at x2 x3
      cases e2
      cases e3
      obtain ⟨x, hx⟩ : ∃ x_, x_ = rd l2 (i : Int) := ⟨_, rfl⟩
      obtain ⟨z, hz⟩ : ∃ x_, x_ = rd l3 (i : Int) := ⟨_, rfl⟩
      rw [← hx] at x2
      rw [← hz] at x3
      have y2 := (HB.out.below.cell (World.block_lt_of_cell? w _ x2)).trans x2
      have y3 := (HB.out.below.cell (World.block_lt_of_cell? w _ x3)).trans x3
      clear x2 x3 hx hz hn2
      obtain ⟨f, hf⟩ : ∃ f : Nat, rst x (s1.size : Int) = (f : Int) := ⟨(rst x (s1.size : Int)).toNat, by have := @rst_bd x (s1.size : Int) (by omega); omega⟩
      have f1 : (f : Int) < (s1.size : Int) := by have := @rst_bd x (s1.size : Int) (by omega); omega
      obtain ⟨q, hq⟩ : ∃ q : Nat, rst z 60 = (q : Int) := ⟨(rst z 60).toNat, by have := @rst_bd z 60 (by decide); omega⟩
      have q1 : (q : Int) < 60 := by have := @rst_bd z 60 (by decide); omega
      obtain ⟨t, ht⟩ : ∃ t_, t_ = min (f + q) s1.size := ⟨_, rfl⟩
      have g1 : (if (s1.size : Int) < (f : Int) + (q : Int) then (s1.size : Int) else (f : Int) + (q : Int)) = (t : Int) := by rw [ht]; split <;> omega
      have g2 : min ((f : Int) + (q : Int)) (s1.size : Int) = (t : Int) := by rw [ht]; omega
      have g3 : (f : Int) ≤ (t : Int) := by omega
      have g4 : (t : Int) ≤ (s1.size : Int) := by omega
      have g5 : (0 : Int) ≤ (f : Int) := by omega
      have g6 : (0 : Int) ≤ (q : Int) := by omega
      have g7 : f ≤ t := by omega
      have g8 : t ≤ s1.size := by omega
      have HS0 : Aside0 (0 < s1.size) := ⟨hsz⟩
      have H12a : Aside0 (∀ W : World, Calls Try.prog 12 #[.int .i64 x, .int .i64 (s1.size : Int)] W fun e w' => e = .returned (.int .i64 (f : Int)) ∧ w' = W) := ⟨fun W => by have h_ := rest_calls x (s1.size : Int) W (by omega) (by omega); rw [hf] at h_; exact h_⟩
      have H12b : Aside0 (∀ W : World, Calls Try.prog 12 #[.int .i64 z, .int .i64 60] W fun e w' => e = .returned (.int .i64 (q : Int)) ∧ w' = W) := ⟨fun W => by have h_ := rest_calls z 60 W (by decide) (by decide); rw [hq] at h_; exact h_⟩
      clear hf hq ht hi i2 i3 i4 hsz
      have p0 : (0 : Int) ≤ (i : Int) := by omega
      have p2 : (i : Int) < (l2.length : Int) := of_decide_eq_true d2b
      have p3 : (i : Int) < (l3.length : Int) := of_decide_eq_true d3b
      go_wp2_with (first
        | (go_at_call 12; with_reducible refine (H12a.out _).mono ?_; rintro e w' ⟨rfl, hw_⟩; obtain rfl := hw_.symm; clear hw_)
        | (go_at_call 12; with_reducible refine (H12b.out _).mono ?_; rintro e w' ⟨rfl, hw_⟩; obtain rfl := hw_.symm; clear hw_))
      have HBr := Aside0.mk HB.out.drew
      refine start_ (n := 9) (S := fun w' => True) (ds := []) #[false, false, false, false, false, false, false, false, false] (by kernel_rfl) rfl rfl trivial (fun hHeld => ?_)
      clear HB y2 y3
      generalize wr.drew = wd at HBr hHeld ⊢
      refine pure_ (i := 0) (N := some 79) (v := ?_) (a' := ?_) #[true, false, false, false, false, false, false, false, false] rfl rfl (by kernel_rfl) (fun _ _ _ h => h) (Or.inl ⟨by rfl, ?_⟩) ?_ ?_
      rotate_left
      · intro w'
        go_simp
        with_reducible rfl
      rotate_left
      · simp only [Act.put, List.setIfInBounds_toArray, List.set_cons_zero, List.set_cons_succ, i64_w, i32_w]
        rfl
      refine pure_ (i := 1) (N := some 80) (v := ?_) (a' := ?_) #[true, true, false, false, false, false, false, false, false] rfl rfl (by kernel_rfl) (fun _ _ _ h => h) (Or.inl ⟨by rfl, ?_⟩) ?_ ?_
      rotate_left
      · intro w'
        go_simp
        with_reducible rfl
      rotate_left
      · simp only [Act.put, List.setIfInBounds_toArray, List.set_cons_zero, List.set_cons_succ, i64_w, i32_w]
        rfl
      refine pure_ (i := 2) (N := some 81) (v := ?_) (a' := ?_) #[true, true, true, false, false, false, false, false, false] rfl rfl (by kernel_rfl) (fun _ _ _ h => h) (Or.inl ⟨by rfl, ?_⟩) ?_ ?_
      rotate_left
      · intro w'
        go_simp
        with_reducible rfl
      rotate_left
      · simp only [Act.put, List.setIfInBounds_toArray, List.set_cons_zero, List.set_cons_succ, i64_w, i32_w]
        rfl
      refine pure_ (i := 4) (N := some 83) (v := ?_) (a' := ?_) #[true, true, true, false, true, false, false, false, false] rfl rfl (by kernel_rfl) (fun _ _ _ h => h) (Or.inl ⟨by rfl, ?_⟩) ?_ ?_
      rotate_left
      · intro w'
        go_simp
        with_reducible rfl
      rotate_left
      · simp only [Act.put, List.setIfInBounds_toArray, List.set_cons_zero, List.set_cons_succ, i64_w, i32_w]
        rfl
      refine pure_ (i := 5) (N := some 84) (v := ?_) (a' := ?_) #[true, true, true, false, true, true, false, false, false] rfl rfl (by kernel_rfl) (fun _ _ _ h => h) (Or.inl ⟨by rfl, ?_⟩) ?_ ?_
      rotate_left
      · intro w'
        go_simp
        with_reducible rfl
      rotate_left
      · simp only [Act.put, List.setIfInBounds_toArray, List.set_cons_zero, List.set_cons_succ, i64_w, i32_w]
        rfl
      refine pure_ (i := 6) (N := some 85) (v := ?_) (a' := ?_) #[true, true, true, false, true, true, true, false, false] rfl rfl (by kernel_rfl) (fun _ _ _ h => h) (Or.inl ⟨by rfl, ?_⟩) ?_ ?_
      rotate_left
      · intro w'
        go_simp
        with_reducible rfl
      rotate_left
      · simp only [Act.put, List.setIfInBounds_toArray, List.set_cons_zero, List.set_cons_succ, i64_w, i32_w]
        rfl
      refine pure_ (i := 7) (N := some 86) (v := ?_) (a' := ?_) #[true, true, true, false, true, true, true, true, false] rfl rfl (by kernel_rfl) (fun _ _ _ h => h) (Or.inl ⟨by rfl, ?_⟩) ?_ ?_
      rotate_left
      · intro w'
        go_simp
        with_reducible rfl
      rotate_left
      · simp only [Act.put, List.setIfInBounds_toArray, List.set_cons_zero, List.set_cons_succ, i64_w, i32_w]
        rfl
      refine one_ (i := 3) (N := some 82) #[true, true, true, true, true, true, true, true, false] rfl rfl (by kernel_rfl) (by decide) (fun K hK => ?_)
      refine goes_ Try.func11 (by kernel_rfl) rfl #[.int .u32 first, .int .i64 (f : Int)] (by rfl) rfl rfl (by (try simp only [List.map_toArray, List.map_cons, List.map_nil]); first | done | rfl) ?_
      with_reducible refine (addq_calls first (f : Int) _).mono ?_
      rintro e w' ⟨rfl, hw_⟩; obtain rfl := hw_.symm; clear hw_
      refine ⟨_, rfl, ?_⟩
      refine hK.out _ _ trivial (fun hHeld => ?_)
      clear hK K
      refine norm_ (a' := ?_) ?_ ?_
      rotate_left
      · show Act.put _ (some 82) _ = _
        simp only [Act.put, List.setIfInBounds_toArray, List.set_cons_zero, List.set_cons_succ, i64_w, i32_w]
        rfl
      refine one_ (i := 8) (N := some 87) #[true, true, true, true, true, true, true, true, true] rfl rfl (by kernel_rfl) (by decide) (fun K hK => ?_)
      refine goes_ Try.func10 (by kernel_rfl) rfl #[.pointer (some ⟨g, 0, none⟩), .int .u32 (addq first (f : Int)), .string (s1.extract f t)] (by rfl) rfl rfl (by (try simp only [List.map_toArray, List.map_cons, List.map_nil]); first | done | rfl) ?_
      with_reducible refine (in_hasG HBr.out HO.out.inv.ok (addq first (f : Int)) (s1.extract f t)).mono ?_
      generalize b.many (addq first (f : Int)) (s1.extract f t) = q5
      generalize RB.errno (s1.extract f t) = q6
      rintro e w7 ⟨rfl, hB⟩
      have HB := Aside0.mk hB
      clear hB HBr
      refine ⟨_, rfl, ?_⟩
      refine hK.out _ _ trivial (fun hHeld => ?_)
      clear hK K
      refine norm_ (a' := ?_) ?_ ?_
      rotate_left
      · show Act.put _ (some 87) _ = _
        simp only [Act.put, List.setIfInBounds_toArray, List.set_cons_zero, List.set_cons_succ, i64_w, i32_w]
        rfl
      refine done_ (by kernel_rfl) ?_
      have HO2 := Aside0.mk (HO.out.put HN.out f t g7 g8)
      obtain ⟨b', hb'⟩ : ∃ b_, b_ = b.put (addq first (f : Int)) (s1.extract f t) := ⟨_, rfl⟩
      rw [← hb'] at HO2 HB
      have HLL : Aside0 (L.length = s1.size) := ⟨HO.out.len⟩
      clear HO hb'
      have hB : HasG w w7 g b' G (mark L f f) := by rw [mark_none L f (by rw [HLL.out]; omega)]; exact HB.out
      clear HB
      have HB := Aside0.mk hB
      clear hB
      go_wp2
      go_loopg [15] (t - f) (fun kq v15 w' => ∃ (k : Nat), v15 = .int .i64 k ∧ Aside0 (k + kq = t) ∧ Aside0 (f ≤ k) ∧ Aside0 (HasG w w' g b' G (mark L f k)))
      case atStart => exact ⟨f, rfl, ⟨by omega⟩, ⟨Nat.le_refl _⟩, HB⟩
      case round =>
        clear HB
        obtain ⟨k, rfl, HK, HK2, HB⟩ := hrel
        cases gk with
        | zero =>
          obtain rfl : k = t := by have := HK.out; omega
          have d6 : decide ((k : Int) < (k : Int)) = false := decide_eq_false (by omega)
          have d7 : decide (k < k) = false := decide_eq_false (by omega)
          go_wp2
          go_roundg k3
          case measure => omega
          case rel => exact ⟨i + 1, b', mark L f k, by first | rw [HT7.out] | rfl | simp, ⟨by have := HI.out; omega⟩, HO2, HB⟩
        | succ k4 =>
          have hk : k < t := by have := HK.out; omega
          have d6 : decide ((k : Int) < (t : Int)) = true := decide_eq_true (by omega)
          have d7 : decide (k < t) = true := decide_eq_true hk
          have c1 := HB.out.cell k (by rw [mark_length, HLL.out]; omega)
          have c2 := HB.out.frozen k
          have r0 : (0 : Int) ≤ (k : Int) := by omega
          have r1 : (k : Int) < (s1.size : Int) := by omega
          have HT9 : Aside0 (wrap64 ((k : Int) + 1) = ((k + 1 : Nat) : Int)) := ⟨by simp only [wrap64]; have := HN.out; omega⟩
          have HB2 : Aside0 (HasG w (wr.setCell ⟨G, k, none⟩ (.bool true)) g b' G (mark L f (k + 1))) := ⟨by
            have h_ := HB.out.set k true
            rw [mark_next L f k HK2.out (by rw [HLL.out]; omega)] at h_
            exact h_⟩
          clear hk
          go_wp2
          go_roundg k4
          case measure => omega
          case rel => exact ⟨k + 1, by first | rw [HT9.out] | rfl | simp, ⟨by have := HK.out; omega⟩, ⟨by have := HK2.out; omega⟩, HB2⟩
end Go.Proofs.Ytpanenghlpipkaa.Recv
