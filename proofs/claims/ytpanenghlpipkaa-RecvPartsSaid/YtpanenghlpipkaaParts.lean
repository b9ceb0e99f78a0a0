/- The walk of RecvParts. -/
import Derived.Test.YtpanenghlpipkaaEdge
import Derived.Test.YtpanenghlpipkaaTwo
namespace Go.Proofs.Ytpanenghlpipkaa.Recv
open Go.RowKit Go.Proofs.Ytpanenghlpipkaa.PRecvOrder Go.Proofs.YtpanenghlpipkaaW.PrintWords Go.Proofs.YtpanenghlpipkaaW.PrintLast Go.Proofs.YtpanenghlpipkaaW.PrintMore
open Go.Proofs.Ytpanenghlpipkaa.Mine
set_option linter.unusedVariables false
set_option linter.unusedSimpArgs false

attribute [local go_sem] max2_int min2_int max_two min_two
set_option maxHeartbeats 8000000 in
set_option maxRecDepth 100000 in
theorem parts_calls (w : World) (first at0 cut : Int) (s th : ByteArray) (hf : 0 ≤ first ∧ first ≤ 4294967295) (hs : s.size ≤ 9223372036854775807) :
    Calls Try.prog 7 #[.int .u32 first, .int .i64 at0, .string s, .int .i64 cut, .string th] w (fun e w' => e = .returned (.bool true) ∧ Below w.heap.size w w') := by
  have HF := Aside0.mk hf
  clear hf
  obtain ⟨n, hn⟩ : ∃ n_, n_ = min s.size 300 := ⟨_, rfl⟩
  have h1 : (if (300 : Int) < (s.size : Int) then 300 else (s.size : Int)) = (n : Int) := by rw [hn]; split <;> omega
  have h2 : min (s.size : Int) 300 = (n : Int) := by rw [hn]; omega
  have e1 : (s.extract 0 n).size = n := by rw [ByteArray.size_extract]; omega
  have b1 : (n : Int) ≤ (s.size : Int) := by omega
  have b3 : n ≤ s.size := by omega
  have HN : Aside0 (n ≤ 300) := ⟨by omega⟩
  have b4 : (n : Int) ≤ 300 := by omega
  clear hn
  obtain ⟨r, hr⟩ : ∃ r : Nat, rst at0 200 = (r : Int) := ⟨(rst at0 200).toNat, by have := @rst_bd at0 200 (by decide); omega⟩
  have HR : Aside0 (r < 200) := ⟨by have := @rst_bd at0 200 (by decide); omega⟩
  have p1 : (0 : Int) ≤ (r : Int) := by omega
  have p2 : (r : Int) ≤ 200 := by have := HR.out; omega
  have H12 : Aside0 (∀ W : World, Calls Try.prog 12 #[.int .i64 at0, .int .i64 200] W fun e w' => e = .returned (.int .i64 (r : Int)) ∧ w' = W) := ⟨fun W => by have h_ := rest_calls at0 200 W (by decide) (by decide); rw [hr] at h_; exact h_⟩
  clear hr
  obtain ⟨k, hk⟩ : ∃ k : Nat, rst cut ((n : Int) + 1) = (k : Int) := ⟨(rst cut ((n : Int) + 1)).toNat, by have := @rst_bd cut ((n : Int) + 1) (by omega); omega⟩
  have HK : Aside0 (k ≤ n) := ⟨by have := @rst_bd cut ((n : Int) + 1) (by omega); omega⟩
  have p3 : (0 : Int) ≤ (k : Int) := by omega
  have p4 : (k : Int) ≤ (n : Int) := by have := HK.out; omega
  have H12b : Aside0 (∀ W : World, Calls Try.prog 12 #[.int .i64 cut, .int .i64 ((n : Int) + 1)] W fun e w' => e = .returned (.int .i64 (k : Int)) ∧ w' = W) := ⟨fun W => by have h_ := rest_calls cut ((n : Int) + 1) W (by omega) (by omega); rw [hk] at h_; exact h_⟩
  clear hk
  have HR1 : Aside0 ((r : Int) + 1 = ((r + 1 : Nat) : Int)) := ⟨by omega⟩
  go_enter Try.func7, Try.ntmps7
  go_wp2_with (go_at_call 8; with_reducible refine (new_has w w (Below.refl _ _) first 400 (by decide) (by decide)).mono ?_; rintro e w2 ⟨ga, rfl, _, _, hh⟩; have HB := Aside0.mk hh; clear hh)
  refine (new_has2 HB.out first 400 (by decide) (by decide)).mono ?_
  rintro e w3 ⟨gb, rfl, hB⟩
  clear HB
  have HB := Aside0.mk hB
  clear hB
  simp only []
  go_wp2_with (first
    | (go_at_call 9; refine (fact_calls _).mono ?_; rintro e w4 ⟨rfl, hb_⟩; have hB := HB.out.elder hb_; clear HB hb_; have HB := Aside0.mk hB; clear hB)
    | (go_at_call 12; with_reducible refine (H12.out _).mono ?_; rintro e w' ⟨rfl, hw_⟩; obtain rfl := hw_.symm; clear hw_)
    | (go_at_call 12; with_reducible refine (H12b.out _).mono ?_; rintro e w' ⟨rfl, hw_⟩; obtain rfl := hw_.symm; clear hw_)
    | (go_at_call 11; with_reducible refine (addq_calls first ((r : Int) + 1) _).mono ?_; rintro e w' ⟨rfl, hw_⟩; obtain rfl := hw_.symm; clear hw_))
  clear h1 h2 b1 b3 hs
  generalize s.extract 0 n = s1 at e1 ⊢
  subst e1
  obtain ⟨fr, hfr⟩ : ∃ x_, x_ = addq first ((r : Int) + 1) := ⟨_, rfl⟩
  rw [← hfr]
  rw [HR1.out] at hfr
  obtain ⟨a0, ha0⟩ : ∃ b_, b_ = (⟨first, 400, [], [], []⟩ : RB) := ⟨_, rfl⟩
  obtain ⟨a1, ha1⟩ : ∃ b_, b_ = a0.put fr s1 := ⟨_, rfl⟩
  obtain ⟨b1, hb1⟩ : ∃ b_, b_ = a0.put fr (s1.extract 0 k) := ⟨_, rfl⟩
  obtain ⟨b2, hb2⟩ : ∃ b_, b_ = b1.put (addq fr (k : Int)) (s1.extract k s1.size) := ⟨_, rfl⟩
  obtain ⟨a2, ha2⟩ : ∃ b_, b_ = a1.put first th := ⟨_, rfl⟩
  obtain ⟨b3, hb3⟩ : ∃ b_, b_ = b2.put first th := ⟨_, rfl⟩
  have hlaw := parts_law first HF.out (r + 1) k (by have := HR.out; omega) s1 th HN.out HK.out a0 a1 a2 b1 b2 b3 ha0 (by rw [← hfr]; exact ha1) (by rw [← hfr]; exact hb1) (by rw [← hfr]; exact hb2) ha2 hb3
  have HO := Aside0.mk hlaw
  have hB := HB.out
  rw [← ha0] at hB
  have HE1 := Aside0.mk ha1
  have HE2 := Aside0.mk hb1
  have HE3 := Aside0.mk hb2
  have HE4 := Aside0.mk ha2
  have HE5 := Aside0.mk hb3
  clear HB hlaw ha0 ha1 hb1 hb2 ha2 hb3 hfr
  have HB := Aside0.mk hB
  clear hB
  refine (in_has2 HB.out HO.out.1 fr s1).mono ?_
  rw [← HE1.out]
  generalize a0.many fr s1 = q1
  generalize RB.errno s1 = q2
  rintro e w5 ⟨rfl, hB⟩
  clear HB
  have HB := Aside0.mk hB
  clear hB
  simp only []
  go_wp2_with fail
  refine (in_has2 HB.out.swap HO.out.1 fr (s1.extract 0 k)).mono ?_
  rw [← HE2.out]
  generalize a0.many fr (s1.extract 0 k) = q3
  generalize RB.errno (s1.extract 0 k) = q4
  rintro e w6 ⟨rfl, hB⟩
  clear HB
  have HB := Aside0.mk hB.swap
  clear hB
  simp only []
  go_wp2_with fail
  have HBr := Aside0.mk HB.out.drew
  refine start_ (n := 8) (S := fun w' => True) (ds := []) #[false, false, false, false, false, false, false, false] (by kernel_rfl) rfl rfl trivial (fun hHeld => ?_)
  clear HB
  generalize w6.drew = wd at HBr hHeld ⊢
  refine pure_ (i := 0) (N := some 74) (v := ?_) (a' := ?_) #[true, false, false, false, false, false, false, false] rfl rfl (by kernel_rfl) (fun _ _ _ h => h) (Or.inl ⟨by rfl, ?_⟩) ?_ ?_
  rotate_left
  · intro w'
    go_simp
    with_reducible rfl
  rotate_left
  · simp only [Act.put, List.setIfInBounds_toArray, List.set_cons_zero, List.set_cons_succ, i64_w, i32_w]
    rfl
  refine pure_ (i := 1) (N := some 75) (v := ?_) (a' := ?_) #[true, true, false, false, false, false, false, false] rfl rfl (by kernel_rfl) (fun _ _ _ h => h) (Or.inl ⟨by rfl, ?_⟩) ?_ ?_
  rotate_left
  · intro w'
    go_simp
    with_reducible rfl
  rotate_left
  · simp only [Act.put, List.setIfInBounds_toArray, List.set_cons_zero, List.set_cons_succ, i64_w, i32_w]
    rfl
  refine pure_ (i := 2) (N := some 76) (v := ?_) (a' := ?_) #[true, true, true, false, false, false, false, false] rfl rfl (by kernel_rfl) (fun _ _ _ h => h) (Or.inl ⟨by rfl, ?_⟩) ?_ ?_
  rotate_left
  · intro w'
    go_simp
    with_reducible rfl
  rotate_left
  · simp only [Act.put, List.setIfInBounds_toArray, List.set_cons_zero, List.set_cons_succ, i64_w, i32_w]
    rfl
  refine pure_ (i := 4) (N := some 78) (v := ?_) (a' := ?_) #[true, true, true, false, true, false, false, false] rfl rfl (by kernel_rfl) (fun _ _ _ h => h) (Or.inl ⟨by rfl, ?_⟩) ?_ ?_
  rotate_left
  · intro w'
    go_simp
    with_reducible rfl
  rotate_left
  · simp only [Act.put, List.setIfInBounds_toArray, List.set_cons_zero, List.set_cons_succ, i64_w, i32_w]
    rfl
  refine pure_ (i := 5) (N := some 79) (v := ?_) (a' := ?_) #[true, true, true, false, true, true, false, false] rfl rfl (by kernel_rfl) (fun _ _ _ h => h) (Or.inl ⟨by rfl, ?_⟩) ?_ ?_
  rotate_left
  · intro w'
    go_simp
    with_reducible rfl
  rotate_left
  · simp only [Act.put, List.setIfInBounds_toArray, List.set_cons_zero, List.set_cons_succ, i64_w, i32_w]
    rfl
  refine pure_ (i := 6) (N := some 80) (v := ?_) (a' := ?_) #[true, true, true, false, true, true, true, false] rfl rfl (by kernel_rfl) (fun _ _ _ h => h) (Or.inl ⟨by rfl, ?_⟩) ?_ ?_
  rotate_left
  · intro w'
    go_simp
    with_reducible rfl
  rotate_left
  · simp only [Act.put, List.setIfInBounds_toArray, List.set_cons_zero, List.set_cons_succ, i64_w, i32_w]
    rfl
  refine one_ (i := 3) (N := some 77) #[true, true, true, true, true, true, true, false] rfl rfl (by kernel_rfl) (by decide) (fun K hK => ?_)
  refine goes_ Try.func11 (by kernel_rfl) rfl #[.int .u32 fr, .int .i64 (k : Int)] (by rfl) rfl rfl (by (try simp only [List.map_toArray, List.map_cons, List.map_nil]); first | done | rfl) ?_
  with_reducible refine (addq_calls fr (k : Int) _).mono ?_
  rintro e w' ⟨rfl, hw_⟩; obtain rfl := hw_.symm; clear hw_
  refine ⟨_, rfl, ?_⟩
  refine hK.out _ _ trivial (fun hHeld => ?_)
  clear hK K
  refine norm_ (a' := ?_) ?_ ?_
  rotate_left
  · show Act.put _ (some 77) _ = _
    simp only [Act.put, List.setIfInBounds_toArray, List.set_cons_zero, List.set_cons_succ, i64_w, i32_w]
    rfl
  refine one_ (i := 7) (N := some 81) #[true, true, true, true, true, true, true, true] rfl rfl (by kernel_rfl) (by decide) (fun K hK => ?_)
  refine goes_ Try.func10 (by kernel_rfl) rfl #[.pointer (some ⟨gb, 0, none⟩), .int .u32 (addq fr (k : Int)), .string (s1.extract k s1.size)] (by rfl) rfl rfl (by (try simp only [List.map_toArray, List.map_cons, List.map_nil]); first | done | rfl) ?_
  with_reducible refine (in_has2 HBr.out.swap HO.out.2.2.2.1 (addq fr (k : Int)) (s1.extract k s1.size)).mono ?_
  rw [← HE3.out]
  generalize b1.many (addq fr (k : Int)) (s1.extract k s1.size) = q5
  generalize RB.errno (s1.extract k s1.size) = q6
  rintro e w7 ⟨rfl, hB⟩
  have HB := Aside0.mk hB.swap
  clear hB HBr
  refine ⟨_, rfl, ?_⟩
  refine hK.out _ _ trivial (fun hHeld => ?_)
  clear hK K
  refine norm_ (a' := ?_) ?_ ?_
  rotate_left
  · show Act.put _ (some 81) _ = _
    simp only [Act.put, List.setIfInBounds_toArray, List.set_cons_zero, List.set_cons_succ, i64_w, i32_w]
    rfl
  refine done_ (by kernel_rfl) ?_
  go_wp2_with fail
  refine (in_has2 HB.out HO.out.2.1 first th).mono ?_
  rw [← HE4.out]
  generalize a1.many first th = q7
  generalize RB.errno th = q8
  rintro e w8 ⟨rfl, hB⟩
  clear HB
  have HB := Aside0.mk hB
  clear hB
  simp only []
  go_wp2_with fail
  refine (in_has2 HB.out.swap HO.out.2.2.2.2.1 first th).mono ?_
  rw [← HE5.out]
  generalize b2.many first th = q9
  generalize RB.errno th = q10
  rintro e w9 ⟨rfl, hB⟩
  clear HB
  have HB := Aside0.mk hB.swap
  clear hB
  simp only []
  go_wp2_with fail
  have hT : a2.ready = b3.ready ∧ a2.next = b3.next ∧ a2.there = b3.there := HO.out.2.2.2.2.2.2
  refine (read_has2 HB.out HO.out.2.2.1 400 (by decide)).mono ?_
  rw [hT.1]
  obtain ⟨m, hm⟩ : ∃ m_, m_ = min (400 : Int).toNat b3.ready.length := ⟨_, rfl⟩
  rw [← hm]
  obtain ⟨str, hstr⟩ : ∃ x_, x_ = strOfNums (b3.ready.take m) := ⟨_, rfl⟩
  rw [← hstr]
  have HT := Aside0.mk hT
  have HMM := Aside0.mk hm
  have HSTR := Aside0.mk hstr
  rintro e w10 ⟨rfl, hB⟩
  clear HB hT hm hstr
  have HB := Aside0.mk hB
  clear hB
  simp only []
  go_wp2_with fail
  refine (read_has2 HB.out.swap HO.out.2.2.2.2.2.1 400 (by decide)).mono ?_
  rw [← HMM.out, ← HSTR.out]
  rintro e w11 ⟨rfl, hB⟩
  clear HB HSTR HMM
  have HB := Aside0.mk hB.swap
  clear hB
  simp only []
  have HOA : Aside0 ((a2.took m).Ok ∧ (b3.took m).Ok) := ⟨HO.out.2.2.1.took m, HO.out.2.2.2.2.2.1.took m⟩
  have HT2 : Aside0 ((a2.took m).next = (b3.took m).next ∧ (a2.took m).there = (b3.took m).there) := ⟨HT.out.2.1, HT.out.2.2⟩
  clear HT HO
  generalize a2.took m = ax at HB HOA HT2
  generalize b3.took m = bx at HB HOA HT2
  go_wp2_with fail
  obtain ⟨nx, hnx⟩ : ∃ x_, x_ = bx.next := ⟨_, rfl⟩
  obtain ⟨L, hL⟩ : ∃ x_, x_ = (blocksFrom nx bx.there bx.there.length 0).length := ⟨_, rfl⟩
  have HNA : Aside0 (ax.next = nx) := ⟨by rw [hnx]; exact HT2.out.1⟩
  have HNB : Aside0 (bx.next = nx) := ⟨hnx.symm⟩
  have HLL := Aside0.mk hL
  clear hnx hL
  refine (next_has HB.out.one).mono ?_
  rw [HNA.out]
  rintro e w' ⟨rfl, hw_⟩
  obtain rfl := hw_.symm
  clear hw_
  simp only []
  go_wp2_with fail
  refine (next_has HB.out.swap.one).mono ?_
  rw [HNB.out]
  rintro e w' ⟨rfl, hw_⟩
  obtain rfl := hw_.symm
  clear hw_
  simp only []
  go_wp2_with fail
  refine (blocks_has HB.out.one HOA.out.1).mono ?_
  rw [HNA.out, HT2.out.2]
  rintro e w12 ⟨v1, rfl, hv, hb⟩
  obtain ⟨A1, c1, rfl⟩ := Kd.R_slice hv
  rw [← HLL.out]
  have hB := HB.out.elder hb
  clear HB hv hb
  have HB := Aside0.mk hB
  clear hB
  simp only []
  go_wp2_with fail
  refine (blocks_has HB.out.swap.one HOA.out.2).mono ?_
  rw [HNB.out]
  rintro e w13 ⟨v2, rfl, hv, hb⟩
  obtain ⟨A2, c2, rfl⟩ := Kd.R_slice hv
  rw [← HLL.out]
  have hB := HB.out.elder hb
  clear HB hv hb
  have HB := Aside0.mk hB
  clear hB
  simp only []
  go_wp2_with fail
  go_ret
  exact ⟨rfl, HB.out.below⟩
end Go.Proofs.Ytpanenghlpipkaa.Recv
