/- The walk of the law SegSums: the Go code comes to the answers of the plain functions below. -/
import Derived.Test.YtlcccmaolbjcfaaPSegElsewherex0
import Derived.Test.YtlcccmaolbjcfaaPSegElsewherex1
import Derived.Test.YtlcccmaolbjcfaaPSegElsewherex2
import Derived.Test.YtlcccmaolbjcfaaPSegElsewherex3
namespace Go.Proofs.Ytlcccmaolbjcfaa.PSegElsewhere
open Go.RowKit Go.Proofs.YtlcccmaolbjcfaaW.PrintWords Go.Proofs.YtlcccmaolbjcfaaW.PrintLast Go.Proofs.YtlcccmaolbjcfaaW.PrintMore
attribute [local go_sem] max2_int min2_int max_two min_two max_three min_three max_four min_four   -- for this text's walks alone
set_option linter.unusedVariables false
set_option linter.unusedSimpArgs false

/-! ### patchbaykeep3_SegSums: function 3 -/
def patchbaykeep3_SegSums.l0 : Nat → ByteArray → Int → ByteArray → Int → Option (Bool)
  | 0, _, _, _, _ => none
  | k + 1, x0, x3, x4, x5 => if x5 > 0 then (if 0 ≤ (wrap64 (x5 - 2)) then (if (wrap64 (x5 - 2)) ≤ x5 then (if x5 ≤ (x0.size : Int) then (if x4.size + (x0.extract ((wrap64 (x5 - 2)) : Int).toNat (x5 : Int).toNat).size ≤ 9223372036854775807 then (patchbaykeep3_SegSums.l0 k x0 x3 (x4 ++ (x0.extract ((wrap64 (x5 - 2)) : Int).toNat (x5 : Int).toNat)) (wrap64 (x5 - 2))) else (none)) else (none)) else (none)) else (none)) else ((seg_Sum.f k x4).bind fun t206 => (if t206 = x3 then ((some (([(wrap64 (Int.tdiv x3 256)) % 256, (Int.tmod x3 256) % 256] : List Int) : List Int)).bind fun y207 => (if x0.size + (strOfNums y207).size ≤ 9223372036854775807 then ((seg_Sum.f k (x0 ++ (strOfNums y207))).bind fun t210 => (some (t210 == 0))) else (none))) else (some false)))
def patchbaykeep3_SegSums.f (k : Nat) (a0 : ByteArray) : Option (Bool) := (patchbaykeep3_segFact.f k).bind fun t204 => (if t204 = true then (if 0 ≤ (wrap64 ((wrap64 ((a0.size : Int) / 2)) * 2)) then (if (wrap64 ((wrap64 ((a0.size : Int) / 2)) * 2)) ≤ (a0.size : Int) then ((seg_Sum.f k (a0.extract 0 ((wrap64 ((wrap64 ((a0.size : Int) / 2)) * 2)) : Int).toNat)).bind fun t205 => (patchbaykeep3_SegSums.l0 k (a0.extract 0 ((wrap64 ((wrap64 ((a0.size : Int) / 2)) * 2)) : Int).toNat) t205 (⟨#[]⟩ : ByteArray) ((a0.extract 0 ((wrap64 ((wrap64 ((a0.size : Int) / 2)) * 2)) : Int).toNat).size : Int))) else (none)) else (none)) else (some false))
theorem patchbaykeep3_SegSums.mono_l : ∀ k, (∀ y0 y1 y2 y3, LeO (patchbaykeep3_SegSums.l0 k y0 y1 y2 y3) (patchbaykeep3_SegSums.l0 (k + 1) y0 y1 y2 y3))
  | 0 => fun _ _ _ _ r h => by simp [patchbaykeep3_SegSums.l0] at h
  | k + 1 => by
    have ih0 := patchbaykeep3_SegSums.mono_l k
    · intro y0 y1 y2 y3
      unfold patchbaykeep3_SegSums.l0
      repeat' first
      | (with_reducible exact ih0 _ _ _ _)
      | (with_reducible exact patchbaykeep3_segFact.mono _)
      | (with_reducible exact seg_Sum.mono _ _)
      | (with_reducible exact LeO.refl _)
      | (with_reducible exact LeO.none _)
      | (with_reducible refine LeO.ite ?_ ?_)
      | (with_reducible refine LeO.bind ?_ (fun _ => ?_))
      | exact ih0 _ _ _ _
      | exact patchbaykeep3_segFact.mono _
      | exact seg_Sum.mono _ _
      | exact LeO.none _
      | refine LeO.ite ?_ ?_
      | refine LeO.bind ?_ (fun _ => ?_)
theorem patchbaykeep3_SegSums.mono : ∀ a0 k, LeO (patchbaykeep3_SegSums.f k a0) (patchbaykeep3_SegSums.f (k + 1) a0) := by
  intro a0 k
  have ih0 := patchbaykeep3_SegSums.mono_l k
  unfold patchbaykeep3_SegSums.f
  repeat' first
      | (with_reducible exact ih0 _ _ _ _)
      | (with_reducible exact patchbaykeep3_segFact.mono _)
      | (with_reducible exact seg_Sum.mono _ _)
      | (with_reducible exact LeO.refl _)
      | (with_reducible exact LeO.none _)
      | (with_reducible refine LeO.ite ?_ ?_)
      | (with_reducible refine LeO.bind ?_ (fun _ => ?_))
      | exact ih0 _ _ _ _
      | exact patchbaykeep3_segFact.mono _
      | exact seg_Sum.mono _ _
      | exact LeO.none _
      | refine LeO.ite ?_ ?_
      | refine LeO.bind ?_ (fun _ => ?_)
set_option maxHeartbeats 8000000 in
set_option maxRecDepth 100000 in
theorem patchbaykeep3_SegSums.calls (k : Nat) (a0 : ByteArray) (r : Bool) (w : World) (h : patchbaykeep3_SegSums.f k a0 = some r) :
    Calls Try.prog 3 #[.string a0] w fun e w' => e = .returned (.bool r) ∧ Below w.heap.size w w' := by
  have HB := Aside0.mk (Below.refl w.heap.size w)
  have H : ((patchbaykeep3_segFact.f k).bind fun t204 => (if t204 = true then (if 0 ≤ (wrap64 ((wrap64 ((a0.size : Int) / 2)) * 2)) then (if (wrap64 ((wrap64 ((a0.size : Int) / 2)) * 2)) ≤ (a0.size : Int) then ((seg_Sum.f k (a0.extract 0 ((wrap64 ((wrap64 ((a0.size : Int) / 2)) * 2)) : Int).toNat)).bind fun t205 => (patchbaykeep3_SegSums.l0 k (a0.extract 0 ((wrap64 ((wrap64 ((a0.size : Int) / 2)) * 2)) : Int).toNat) t205 (⟨#[]⟩ : ByteArray) ((a0.extract 0 ((wrap64 ((wrap64 ((a0.size : Int) / 2)) * 2)) : Int).toNat).size : Int))) else (none)) else (none)) else (some false))) = some r := h
  clear h
  replace H := Option.bind_eq_some_iff.mp H
  obtain ⟨t204, A20, H⟩ := H
  replace H : (if t204 = true then (if 0 ≤ (wrap64 ((wrap64 ((a0.size : Int) / 2)) * 2)) then (if (wrap64 ((wrap64 ((a0.size : Int) / 2)) * 2)) ≤ (a0.size : Int) then ((seg_Sum.f k (a0.extract 0 ((wrap64 ((wrap64 ((a0.size : Int) / 2)) * 2)) : Int).toNat)).bind fun t205 => (patchbaykeep3_SegSums.l0 k (a0.extract 0 ((wrap64 ((wrap64 ((a0.size : Int) / 2)) * 2)) : Int).toNat) t205 (⟨#[]⟩ : ByteArray) ((a0.extract 0 ((wrap64 ((wrap64 ((a0.size : Int) / 2)) * 2)) : Int).toNat).size : Int))) else (none)) else (none)) else (some false)) = some r := H
  have A2 := Aside0.mk A20
  clear A20
  by_cases c3 : t204 = true
  · subst c3
    have H1 : (if 0 ≤ (wrap64 ((wrap64 ((a0.size : Int) / 2)) * 2)) then (if (wrap64 ((wrap64 ((a0.size : Int) / 2)) * 2)) ≤ (a0.size : Int) then ((seg_Sum.f k (a0.extract 0 ((wrap64 ((wrap64 ((a0.size : Int) / 2)) * 2)) : Int).toNat)).bind fun t205 => (patchbaykeep3_SegSums.l0 k (a0.extract 0 ((wrap64 ((wrap64 ((a0.size : Int) / 2)) * 2)) : Int).toNat) t205 (⟨#[]⟩ : ByteArray) ((a0.extract 0 ((wrap64 ((wrap64 ((a0.size : Int) / 2)) * 2)) : Int).toNat).size : Int))) else (none)) else (none)) = some r := by rw [if_pos rfl] at H; exact H
    clear H
    have H := H1
    clear H1
    obtain ⟨ji4, hji4⟩ : ∃ j_ : Int, (wrap64 ((wrap64 ((a0.size : Int) / 2)) * 2)) = j_ := ⟨_, rfl⟩
    replace H : (if 0 ≤ (ji4) then (if (ji4) ≤ (a0.size : Int) then ((seg_Sum.f k (a0.extract 0 ((ji4) : Int).toNat)).bind fun t205 => (patchbaykeep3_SegSums.l0 k (a0.extract 0 ((ji4) : Int).toNat) t205 (⟨#[]⟩ : ByteArray) ((a0.extract 0 ((ji4) : Int).toNat).size : Int))) else (none)) else (none)) = some r := by first | (rw [hji4] at H; exact H) | (simp only [hji4] at H ⊢; exact H)
    (try rw [hji4] at A2)
    have hji4w : (IntKind.i64.wrap ((wrap64 ((a0.size : Int) / 2)) * 2)) = ji4 := (i64_w _).trans hji4
    by_cases c5 : 0 ≤ (ji4)
    · rw [if_pos c5] at H
      have c5b0 := eq_true c5
      have c5b1 : decide (0 ≤ (ji4)) = true := decide_eq_true c5
      clear c5
      by_cases c6 : (ji4) ≤ (a0.size : Int)
      · rw [if_pos c6] at H
        have c6b0 := eq_true c6
        have c6b1 : decide ((ji4) ≤ (a0.size : Int)) = true := decide_eq_true c6
        clear c6
        obtain ⟨s0, hs0⟩ : ∃ s_ : ByteArray, (a0.extract 0 ((ji4) : Int).toNat) = s_ := ⟨_, rfl⟩
        rw [hs0] at H
        replace H := Option.bind_eq_some_iff.mp H
        obtain ⟨t205, A70, H⟩ := H
        replace H : (patchbaykeep3_SegSums.l0 k s0 t205 (⟨#[]⟩ : ByteArray) (s0.size : Int)) = some r := H
        have A7 := Aside0.mk A70
        clear A70
        have H' := Aside0.mk H
        clear H
        go_enter Try.func3, Try.ntmps3
        go_wp2_with (first | ((with_reducible refine gate_callee (f := 11) rfl ?_); refine goesL_ (some 6) rfl rfl Try.func11 (by kernel_rfl) rfl #[] rfl (by (try simp only [List.map_toArray, List.map_cons, List.map_nil]); first | done | rfl | (simp only [List.length_drop, List.length_take]; rfl)) ?_; (with_reducible refine (patchbaykeep3_segFact.calls k  true _ A2.out).mono ?_); rintro e w8 ⟨rfl, hb⟩; refine ⟨_, rfl, ?_⟩; have n0_ := Aside0.mk (below_step (by repeat (first | (with_reducible first | exact HB.out | apply below_alloc | apply pw_below_drewN | apply below_drew1) | exact HB.out)) hb); clear HB; have HB := n0_; clear n0_; (try clear hb); (try clear hb2); (try clear hk); (try clear hi)) | ((with_reducible refine gate_callee (f := 12) rfl ?_); refine goesL_ (some 15) rfl rfl Try.func12 (by kernel_rfl) rfl #[.string s0] rfl (by (try simp only [List.map_toArray, List.map_cons, List.map_nil]); first | done | (simp only [hji4]; rfl) | rfl | (simp only [List.length_drop, List.length_take]; rfl)) ?_; (with_reducible refine (seg_Sum.calls k s0 t205 _ A7.out).mono ?_); rintro e w' ⟨rfl, ⟨nd, rfl⟩⟩; refine ⟨_, rfl, ?_⟩))
        go_loopg [4, 5] k (fun kq v4 v5 w' => ∃ (x4_1 : ByteArray) (x5_1 : Int), v4 = .string x4_1 ∧ v5 = .int .i64 x5_1 ∧ Aside0 (patchbaykeep3_SegSums.l0 kq s0 t205 x4_1 x5_1 = some r) ∧ Aside0 (kq ≤ k) ∧ Aside0 (Below w.heap.size w w'))
        case atStart => exact ⟨((⟨#[]⟩ : ByteArray)), ((s0.size : Int)), (by first | rfl | (simp; done) | (simp [*]; done)), (by first | rfl | (simp; done) | (simp only [← hji4] <;> (first | rfl | simp)) | (simp [*]; done)), H', ⟨Nat.le_refl _⟩, ⟨by repeat (first | (with_reducible first | exact HB.out | apply below_alloc | apply pw_below_drewN | apply below_drew1) | exact HB.out)⟩⟩
        case round =>
          clear H'
          try clear c1
          try clear p2
          try clear c3
          try clear p3
          try clear c5
          try clear c5b0
          try clear c5b1
          try clear c6
          try clear c6b0
          try clear c6b1
          try clear p6
          obtain ⟨x4_1, x5_1, rfl, rfl, HA, HK1, HB⟩ := hrel
          cases gk with
          | zero => exact absurd HA.out (by simp [patchbaykeep3_SegSums.l0])
          | succ k1 =>
            have H := HA.out
            clear HA
            simp only [patchbaykeep3_SegSums.l0] at H
            by_cases c9 : x5_1 > 0
            · rw [if_pos c9] at H
              have c9b0 : decide (0 < x5_1) = true := decide_eq_true c9
              clear c9
              obtain ⟨ji10, hji10⟩ : ∃ j_ : Int, (wrap64 (x5_1 - 2)) = j_ := ⟨_, rfl⟩
              replace H : (if 0 ≤ (ji10) then (if (ji10) ≤ x5_1 then (if x5_1 ≤ (s0.size : Int) then (if x4_1.size + (s0.extract ((ji10) : Int).toNat (x5_1 : Int).toNat).size ≤ 9223372036854775807 then (patchbaykeep3_SegSums.l0 k1 s0 t205 (x4_1 ++ (s0.extract ((ji10) : Int).toNat (x5_1 : Int).toNat)) ji10) else (none)) else (none)) else (none)) else (none)) = some r := by first | (rw [hji10] at H; exact H) | (simp only [hji10] at H ⊢; exact H)
              have hji10w : (IntKind.i64.wrap (x5_1 - 2)) = ji10 := (i64_w _).trans hji10
              by_cases c11 : 0 ≤ (ji10)
              · rw [if_pos c11] at H
                have c11b0 := eq_true c11
                have c11b1 : decide (0 ≤ (ji10)) = true := decide_eq_true c11
                clear c11
                by_cases c12 : (ji10) ≤ x5_1
                · rw [if_pos c12] at H
                  have c12b0 := eq_true c12
                  have c12b1 : decide ((ji10) ≤ x5_1) = true := decide_eq_true c12
                  clear c12
                  by_cases c13 : x5_1 ≤ (s0.size : Int)
                  · rw [if_pos c13] at H
                    have c13b0 := eq_true c13
                    have c13b1 : decide (x5_1 ≤ (s0.size : Int)) = true := decide_eq_true c13
                    clear c13
                    by_cases c14 : x4_1.size + (s0.extract ((ji10) : Int).toNat (x5_1 : Int).toNat).size ≤ 9223372036854775807
                    · rw [if_pos c14] at H
                      have c14b0 := eq_true c14
                      have c14b1 : decide (x4_1.size + (s0.extract ((ji10) : Int).toNat (x5_1 : Int).toNat).size ≤ 9223372036854775807) = true := decide_eq_true c14
                      try have c14b2 : (9223372036854775807 < x4_1.size + (s0.extract ((ji10) : Int).toNat (x5_1 : Int).toNat).size) = False := eq_false (Nat.not_lt.2 c14)
                      have H' := Aside0.mk H
                      clear H
                      go_wp2
                      go_roundg k1
                      case measure => have := HK1.out; omega
                      case rel => exact ⟨(x4_1 ++ (s0.extract ((ji10) : Int).toNat (x5_1 : Int).toNat)), (ji10), (by first | rfl | (simp; done) | (simp only [← hji4, ← hji10] <;> (first | rfl | simp)) | (simp [*]; done)), (by first | rfl | (simp; done) | (simp only [← hji10] <;> (first | rfl | simp)) | (simp [*]; done)), H', ⟨by have := HK1.out; omega⟩, ⟨by repeat (first | (with_reducible first | exact HB.out | apply below_alloc | apply pw_below_drewN | apply below_drew1) | exact HB.out)⟩⟩
                    · rw [if_neg c14] at H
                      exact absurd H (by simp)
                  · rw [if_neg c13] at H
                    exact absurd H (by simp)
                · rw [if_neg c12] at H
                  exact absurd H (by simp)
              · rw [if_neg c11] at H
                exact absurd H (by simp)
            · rw [if_neg c9] at H
              have c9b0 : decide (0 < x5_1) = false := decide_eq_false c9
              clear c9
              replace H := Option.bind_eq_some_iff.mp H
              obtain ⟨t206, A150, H⟩ := H
              replace H : (if t206 = t205 then ((some (([(wrap64 (Int.tdiv t205 256)) % 256, (Int.tmod t205 256) % 256] : List Int) : List Int)).bind fun y207 => (if s0.size + (strOfNums y207).size ≤ 9223372036854775807 then ((seg_Sum.f k1 (s0 ++ (strOfNums y207))).bind fun t210 => (some (t210 == 0))) else (none))) else (some false)) = some r := H
              have A15 := Aside0.mk A150
              clear A150
              by_cases c16 : t206 = t205
              · rw [if_pos c16] at H
                have c16b0 : (t206 == t205) = true := beq_iff_eq.mpr c16
                have c16b1 : (t206 != t205) = false := bne_eq_false_iff_eq.mpr c16
                clear c16
                obtain ⟨y207, hy207⟩ : ∃ y_ : List Int, y_ = (([(wrap64 (Int.tdiv t205 256)) % 256, (Int.tmod t205 256) % 256] : List Int)) := ⟨_, rfl⟩
                replace H : (if s0.size + (strOfNums y207).size ≤ 9223372036854775807 then ((seg_Sum.f k1 (s0 ++ (strOfNums y207))).bind fun t210 => (some (t210 == 0))) else (none)) = some r := by first | (rw [hy207]; with_reducible exact H) | (have H2_ := (Option.bind_some _ _).symm.trans H; rw [hy207]; with_reducible exact H2_) | (have H2_ := (Option.bind_some _ _).symm.trans H; with_reducible exact H2_) | with_reducible exact H | (rw [hy207]; exact H) | exact H
                have Ny207 := Aside0.mk hy207
                clear hy207
                by_cases c17 : s0.size + (strOfNums y207).size ≤ 9223372036854775807
                · rw [if_pos c17] at H
                  have c17b0 := eq_true c17
                  have c17b1 : decide (s0.size + (strOfNums y207).size ≤ 9223372036854775807) = true := decide_eq_true c17
                  try have c17b2 : (9223372036854775807 < s0.size + (strOfNums y207).size) = False := eq_false (Nat.not_lt.2 c17)
                  replace H := Option.bind_eq_some_iff.mp H
                  obtain ⟨t210, A180, H⟩ := H
                  replace H : (some (t210 == 0)) = some r := H
                  have A18 := Aside0.mk A180
                  clear A180
                  obtain rfl := Option.some.inj H
                  go_wp2_with (first | ((with_reducible refine gate_callee (f := 12) rfl ?_); refine goesL_ (some 30) rfl rfl Try.func12 (by kernel_rfl) rfl #[.string x4_1] rfl (by (try simp only [List.map_toArray, List.map_cons, List.map_nil]); first | done | rfl | (simp only [List.length_drop, List.length_take]; rfl)) ?_; (with_reducible refine (seg_Sum.calls k1 x4_1 t206 _ A15.out).mono ?_); rintro e w' ⟨rfl, ⟨nd, rfl⟩⟩; refine ⟨_, rfl, ?_⟩) | ((with_reducible refine gate_dst (N := 41) rfl ?_); (try (refine gate_guard (by rfl) ?_; dsimp only)); refine Kd.R_lit (Kd.int .u8) _ 5 ?hg (N := 41) ?hd (xs := ([(wrap64 (Int.tdiv t205 256)) % 256, (Int.tmod t205 256) % 256] : List Int)) (inner := [.int .u8 ((wrap64 (Int.tdiv t205 256)) % 256), .int .u8 ((Int.tmod t205 256) % 256)]) (ok := fun _ => True) (okp := fun _ => True) ?hr ?hp (fun _ hk => hk) trivial (Below.refl _ _) (Nat.le_refl _) (by simp) ?_; (case hd => rfl); (case hg => rfl); (case hr => first | (go_simp; done) | (go_simp; rfl)); (case hp => exact (Reps.one (show Kd.M (Kd.int .u8) _ _ _ ((wrap64 (Int.tdiv t205 256)) % 256) [.int .u8 ((wrap64 (Int.tdiv t205 256)) % 256)] from rfl) (Reps.one (show Kd.M (Kd.int .u8) _ _ _ ((Int.tmod t205 256) % 256) [.int .u8 ((Int.tmod t205 256) % 256)] from rfl) (Reps.none _ _)))); intro v208 w19 ho20 hb hg_ hnew_; clear hg_ hnew_; (first | rw [← Ny207.out] at ho20 | (simp only [Int.reduceToNat] at ho20; rw [← Ny207.out] at ho20)); have n0_ := Aside0.mk (Kd.R_lower ho20 (below_size (by repeat (first | (with_reducible first | exact HB.out | apply below_alloc | apply pw_below_drewN | apply below_drew1) | exact HB.out)))); have n1_ := Aside0.mk (below_step (by repeat (first | (with_reducible first | exact HB.out | apply below_alloc | apply pw_below_drewN | apply below_drew1) | exact HB.out)) hb); clear HB; have HO209 := n0_; have HB := n1_; clear n0_ n1_; clear hb ho20; have hcv21 := own_string (P := Try.prog) Try.underlying24 Try.underlying5 Try.underlying9 (Kd.own_of_R HO209.out)) | (go_at_call 12; (with_reducible refine (seg_Sum.calls k1 (s0 ++ (strOfNums y207)) t210 _ A18.out).mono ?_); rintro e w' ⟨rfl, ⟨nd, rfl⟩⟩))
                  go_ret
                  exact ⟨by first | rfl | (simp [errW_none, errW_some] <;> rfl) | (simp only [← hji4]; first | rfl | (simp [errW_none, errW_some] <;> rfl)) | (simp [*, errW_none, errW_some] <;> rfl), by repeat (first | (with_reducible first | exact HB.out | apply below_alloc | apply pw_below_drewN | apply below_drew1) | exact HB.out)⟩
                · rw [if_neg c17] at H
                  exact absurd H (by simp)
              · rw [if_neg c16] at H
                have c16b0 : (t206 == t205) = false := beq_eq_false_iff_ne.mpr c16
                have c16b1 : (t206 != t205) = true := bne_iff_ne.mpr c16
                obtain rfl := Option.some.inj H
                go_wp2_with (first | ((with_reducible refine gate_callee (f := 12) rfl ?_); refine goesL_ (some 30) rfl rfl Try.func12 (by kernel_rfl) rfl #[.string x4_1] rfl (by (try simp only [List.map_toArray, List.map_cons, List.map_nil]); first | done | rfl | (simp only [List.length_drop, List.length_take]; rfl)) ?_; (with_reducible refine (seg_Sum.calls k1 x4_1 t206 _ A15.out).mono ?_); rintro e w' ⟨rfl, ⟨nd, rfl⟩⟩; refine ⟨_, rfl, ?_⟩))
                go_ret
                exact ⟨by first | rfl | (simp [errW_none, errW_some] <;> rfl) | (simp only [← hji4]; first | rfl | (simp [errW_none, errW_some] <;> rfl)) | (simp [*, errW_none, errW_some] <;> rfl), by repeat (first | (with_reducible first | exact HB.out | apply below_alloc | apply pw_below_drewN | apply below_drew1) | exact HB.out)⟩
      · rw [if_neg c6] at H
        exact absurd H (by simp)
    · rw [if_neg c5] at H
      exact absurd H (by simp)
  · replace c3 := Bool.eq_false_iff.mpr c3
    subst c3
    have H1 : (some false) = some r := by rw [if_neg (show ¬ (false = true) by decide)] at H; exact H
    clear H
    have H := H1
    clear H1
    obtain rfl := Option.some.inj H
    go_enter Try.func3, Try.ntmps3
    go_wp2_with (first | ((with_reducible refine gate_callee (f := 11) rfl ?_); refine goesL_ (some 6) rfl rfl Try.func11 (by kernel_rfl) rfl #[] rfl (by (try simp only [List.map_toArray, List.map_cons, List.map_nil]); first | done | rfl | (simp only [List.length_drop, List.length_take]; rfl)) ?_; (with_reducible refine (patchbaykeep3_segFact.calls k  false _ A2.out).mono ?_); rintro e w22 ⟨rfl, hb⟩; refine ⟨_, rfl, ?_⟩; have n0_ := Aside0.mk (below_step (by repeat (first | (with_reducible first | exact HB.out | apply below_alloc | apply pw_below_drewN | apply below_drew1) | exact HB.out)) hb); clear HB; have HB := n0_; clear n0_; (try clear hb); (try clear hb2); (try clear hk); (try clear hi)))
    go_ret
    exact ⟨by first | rfl | (simp [errW_none, errW_some] <;> rfl) | (simp [*, errW_none, errW_some] <;> rfl), by repeat (first | (with_reducible first | exact HB.out | apply below_alloc | apply pw_below_drewN | apply below_drew1) | exact HB.out)⟩

/-- THE ONE PURE STATEMENT of patchbaykeep3_SegSums: yours. -/
def patchbaykeep3_SegSums.Pure : Prop := ∀ (a0 : ByteArray), a0.size ≤ 140737488351232 → ∃ k, patchbaykeep3_SegSums.f k a0 = some true
theorem patchbaykeep3_SegSums.walk (P : patchbaykeep3_SegSums.Pure) (a0 : ByteArray) (w : World) (w0 : a0.size ≤ 140737488351232) :
    Calls Try.prog 3 #[.string a0] w fun e w' => e = .returned (.bool true) ∧ Below w.heap.size w w' := by
  obtain ⟨k, h⟩ := P a0 w0
  refine (patchbaykeep3_SegSums.calls k a0 true w h).mono ?_
  rintro e w' ⟨rfl, hd⟩
  exact ⟨rfl, hd⟩

end Go.Proofs.Ytlcccmaolbjcfaa.PSegElsewhere
