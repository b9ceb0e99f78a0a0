/- The walk of (*recv.Buffer).Blocks. -/
import Derived.Test.YtpanenghlpipkaaMid
import Derived.Deep.RegionLaw
import Derived.RegionTactic
import Derived.BigRegion
namespace Go.Proofs.Ytpanenghlpipkaa.Recv
open Go.RowKit Go.Proofs.Ytpanenghlpipkaa.PRecvOrder Go.Proofs.YtpanenghlpipkaaW.PrintWords Go.Proofs.YtpanenghlpipkaaW.PrintLast Go.Proofs.YtpanenghlpipkaaW.PrintMore
set_option linter.unusedVariables false
set_option linter.unusedSimpArgs false

abbrev addq (x n : Int) : Int := (x + n) % 4294967296

/-- The ranges behind place i; n: how many places are left, or more. -/
def blocksFrom (next : Int) (there : List Bool) : Nat → Nat → List S37
  | 0, _ => []
  | n + 1, i => if there.getD i false = true then ⟨addq next (i : Int), addq next ((i : Int) + (lead (there.drop i) : Int))⟩ :: blocksFrom next there n (i + lead (there.drop i) + 1)
    else blocksFrom next there n (i + 1)
theorem blocksFrom_end (next : Int) (there : List Bool) : ∀ (n i : Nat), there.length ≤ i → blocksFrom next there n i = [] := by
  intro n
  induction n with
  | zero => intro i _; rfl
  | succ n ih =>
    intro i hi
    rw [blocksFrom, if_neg (by simp [List.getElem?_eq_none hi])]
    exact ih _ (by omega)
theorem blocksFrom_length (next : Int) (there : List Bool) : ∀ (n i : Nat), (blocksFrom next there n i).length ≤ n := by
  intro n
  induction n with
  | zero => intro i; exact Nat.le_refl _
  | succ n ih =>
    intro i
    rw [blocksFrom]
    split
    · rw [List.length_cons]; exact Nat.succ_le_succ (ih _)
    · exact Nat.le_succ_of_le (ih _)

theorem getD_drop (l : List Bool) (i m : Nat) : l.getD (i + m) false = (l.drop i).getD m false := by simp

section
variable {base g : Nat} {next room : Int} {vr vd vt : Value} {ready data : List Int} {there : List Bool}
set_option maxHeartbeats 4000000 in
set_option maxRecDepth 100000 in
theorem blocks_calls (w : World) (h : BufV w base g next room vr vd vt ready data there) (hmax : there.length ≤ 100000) :
    Calls Try.prog 13 #[.pointer (some ⟨g, 0, none⟩)] w (fun e w' => ∃ v, e = .returned v ∧ k37.R 37 w' w.heap.size (fun _ => True) v (blocksFrom next there there.length 0) ∧ Below w.heap.size w w') := by
  obtain ⟨At, ct, rfl, hct⟩ := Kd.Q_slice h.t
  have HH := Aside0.mk h
  have HM := Aside0.mk hmax
  have b1 : (there.length : Int) ≤ 100000 := by omega
  clear h hmax
  go_enter Try.func13, Try.ntmps13
  go_wp2
  go_loopg [3, 4] (there.length) (fun kq v3 v4 w' => ∃ (i f : Nat) (v1 : Value) (out : List S37), v1 = v3 ∧ v4 = .int .i64 i ∧ Aside0 (kq = there.length - i) ∧ Aside0 (i ≤ there.length + 1) ∧ Aside0 (there.length ≤ i + f) ∧ Aside0 (out ++ blocksFrom next there f i = blocksFrom next there there.length 0) ∧ Aside0 (k37.R 37 w' w.heap.size (fun _ => True) v1 out) ∧ Aside0 (Below w.heap.size w w'))
  case atStart => exact ⟨0, there.length, .slice none 0 0, [], rfl, rfl, ⟨rfl⟩, ⟨by omega⟩, ⟨by omega⟩, ⟨rfl⟩, ⟨Kd.R_nil _ _ _ _ _⟩, ⟨Below.refl _ _⟩⟩
  case round =>
    obtain ⟨i, f, v1, out, rfl, rfl, HI, HI2, HF, HE, HO, HB⟩ := hrel
    have HG := Aside0.mk (HH.out.below HB.out)
    have BK := Aside0.mk HG.out.blk
    obtain ⟨⟨c0, c1, c2, c3, c4⟩, _⟩ := HG.out.cells
    clear c0 c1 c2 c3
    have a0 : (0 : Int) ≤ (i : Int) := by omega
    have a1 : (i : Int) ≤ 100001 := by have := HI2.out; have := HM.out; omega
    cases gk with
    | zero =>
      have t1 : decide ((i : Int) < (there.length : Int)) = false := decide_eq_false (by have := HI.out; omega)
      have t2 : decide (i < there.length) = false := decide_eq_false (by have := HI.out; omega)
      have HX : Aside0 (out = blocksFrom next there there.length 0) := ⟨by have := HE.out; rw [blocksFrom_end next there f i (by have := HI.out; omega), List.append_nil] at this; exact this⟩
      go_wp2
      go_ret
      refine ⟨_, rfl, ?_, HB.out⟩
      rw [← HX.out]
      exact HO.out
    | succ k1 =>
      have t1 : decide ((i : Int) < (there.length : Int)) = true := decide_eq_true (by have := HI.out; omega)
      have t2 : decide (i < there.length) = true := decide_eq_true (by have := HI.out; omega)
      have HIL : Aside0 (i < there.length) := ⟨by have := HI.out; omega⟩
      have t3 : (i : Int) < (there.length : Int) := by have := HI.out; omega
      obtain ⟨gt, ot, eA, m1, m2⟩ := HG.out.mark i HIL.out
      subst eA
      obtain ⟨f1, rfl⟩ : ∃ f1, f = f1 + 1 := ⟨f - 1, by have := HF.out; have := HIL.out; omega⟩
      have hE := HE.out
      rw [blocksFrom] at hE
      have t7 : wrap64 ((i : Int) + 1) = ((i + 1 : Nat) : Int) := by simp only [wrap64]; omega
      cases hm : there.getD i false with
      | false =>
        rw [hm] at m1 hE
        rw [if_neg (by decide)] at hE
        have HE2 := Aside0.mk hE
        clear hE hm
        go_wp2
        go_roundg k1
        case measure => omega
        case rel => exact ⟨i + 1, f1, v1, out, rfl, by first | rw [t7] | rfl | simp, ⟨by have := HI.out; omega⟩, ⟨by have := HIL.out; omega⟩, ⟨by have := HF.out; omega⟩, HE2, HO, HB⟩
      | true =>
        rw [hm] at m1 hE
        rw [if_pos rfl] at hE
        have HE2 := Aside0.mk hE
        have HMK := Aside0.mk hm
        clear hE hm
        go_wp2
        go_loopg [5] (lead (there.drop i)) (fun kq v5 w' => ∃ j : Nat, v5 = .int .i64 j ∧ Aside0 (j + kq = i + lead (there.drop i)) ∧ Aside0 (i ≤ j) ∧ Aside0 (w' = wr))
        case atStart => exact ⟨i, rfl, ⟨by omega⟩, ⟨Nat.le_refl _⟩, ⟨rfl⟩⟩
        case round =>
          obtain ⟨j, rfl, HJ, HJ2, HW⟩ := hrel
          obtain rfl := HW.out
          have hle := lead_le (there.drop i)
          rw [List.length_drop] at hle
          cases gk with
          | zero =>
            have HN : Aside0 (j = i + lead (there.drop i)) := ⟨by have := HJ.out; omega⟩
            have hj : j ≤ there.length := by have := HN.out; have := HIL.out; omega
            have a2 : (0 : Int) ≤ (j : Int) := by omega
            have a3 : (j : Int) ≤ 100000 := by have := HM.out; omega
            have t8 : wrap64 ((j : Int) + 1) = ((j + 1 : Nat) : Int) := by simp only [wrap64]; omega
            have HNL : Aside0 ((out.length + 1) * 8 ≤ 140737488355328) := ⟨by
              have h1 := congrArg List.length HE2.out
              rw [List.length_append, List.length_cons] at h1
              have h2 := blocksFrom_length next there there.length 0
              have := HM.out
              omega⟩
            have HE3 : Aside0 ((out ++ [⟨addq next (i : Int), addq next (j : Int)⟩]) ++ blocksFrom next there f1 (j + 1) = blocksFrom next there there.length 0) := ⟨by
              rw [List.append_assoc, List.singleton_append, HN.out, Int.natCast_add]; exact HE2.out⟩
            have hstop : j = there.length ∨ (j < there.length ∧ there.getD j false = false) := by
              by_cases c : j < there.length
              · refine .inr ⟨c, ?_⟩
                have h1 := lead_false (there.drop i)
                rw [← getD_drop, ← HN.out] at h1
                exact h1
              · exact .inl (by omega)
            clear hle
            rcases hstop with hs | ⟨hs, hf⟩
            · have t4 : decide ((j : Int) < (there.length : Int)) = false := decide_eq_false (by omega)
              have t5 : decide (j < there.length) = false := decide_eq_false (by omega)
              clear hs
              go_wp2
              have BKr : Aside0 (wr.drew.heap[g]? = some (.cells #[.int .u32 next, .int .i64 room, vr, vd, .slice (some ⟨gt, ot, none⟩) there.length ct] 51 (0, 0))) := ⟨BK.out⟩
              have HBr := Aside0.mk (below_drew1 HB.out)
              have HOr := Aside0.mk (Kd.R_drew HO.out)
              refine start_ (n := 17) (S := fun w' => w'.cell? ⟨g, 0, none⟩ = some (.int .u32 next)) (ds := []) #[false, false, false, false, false, false, false, false, false, false, false, false, false, false, false, false, false] (by kernel_rfl) rfl rfl ((blk_cell BKr.out 0).trans rfl) (fun hHeld => ?_)
              generalize wr.drew = wd at BKr HBr HOr hHeld ⊢
              refine pure_ (i := 0) (N := some 42) (v := ?_) (a' := ?_) #[true, false, false, false, false, false, false, false, false, false, false, false, false, false, false, false, false] rfl rfl (by kernel_rfl) (fun _ _ _ h => h) (Or.inl ⟨by rfl, ?_⟩) ?_ ?_
              rotate_left
              · intro w'
                go_simp
                with_reducible rfl
              rotate_left
              · simp only [Act.put, List.setIfInBounds_toArray, List.set_cons_zero, List.set_cons_succ, i64_w, i32_w]
                rfl
              refine pure_ (i := 1) (N := some 43) (v := ?_) (a' := ?_) #[true, true, false, false, false, false, false, false, false, false, false, false, false, false, false, false, false] rfl rfl (by kernel_rfl) (fun _ _ _ h => h) (Or.inl ⟨by rfl, ?_⟩) ?_ ?_
              rotate_left
              · intro w'
                go_simp
                with_reducible rfl
              rotate_left
              · simp only [Act.put, List.setIfInBounds_toArray, List.set_cons_zero, List.set_cons_succ, i64_w, i32_w]
                rfl
              refine pure_ (i := 2) (N := some 44) (v := ?_) (a' := ?_) #[true, true, true, false, false, false, false, false, false, false, false, false, false, false, false, false, false] rfl rfl (by kernel_rfl) (fun _ _ _ h => h) (Or.inl ⟨by rfl, ?_⟩) ?_ ?_
              rotate_left
              · intro w'
                go_simp
                with_reducible rfl
              rotate_left
              · simp only [Act.put, List.setIfInBounds_toArray, List.set_cons_zero, List.set_cons_succ, i64_w, i32_w]
                rfl
              refine pure_ (i := 3) (N := some 45) (v := ?_) (a' := ?_) #[true, true, true, true, false, false, false, false, false, false, false, false, false, false, false, false, false] rfl rfl (by kernel_rfl) (fun _ _ _ h => h) (Or.inl ⟨by rfl, ?_⟩) ?_ ?_
              rotate_left
              · intro w'
                go_simp
                with_reducible rfl
              rotate_left
              · simp only [Act.put, List.setIfInBounds_toArray, List.set_cons_zero, List.set_cons_succ, i64_w, i32_w]
                rfl
              refine pure_ (i := 5) (N := some 47) (v := ?_) (a' := ?_) #[true, true, true, true, false, true, false, false, false, false, false, false, false, false, false, false, false] rfl rfl (by kernel_rfl) (fun _ _ _ h => h) (Or.inl ⟨by rfl, ?_⟩) ?_ ?_
              rotate_left
              · intro w'
                go_simp
                with_reducible rfl
              rotate_left
              · simp only [Act.put, List.setIfInBounds_toArray, List.set_cons_zero, List.set_cons_succ, i64_w, i32_w]
                rfl
              refine pure_ (i := 7) (N := some 49) (v := ?_) (a' := ?_) #[true, true, true, true, false, true, false, true, false, false, false, false, false, false, false, false, false] rfl rfl (by kernel_rfl) (fun _ _ _ h => h) (Or.inl ⟨by rfl, ?_⟩) ?_ ?_
              rotate_left
              · intro w'
                go_simp
                with_reducible rfl
              rotate_left
              · simp only [Act.put, List.setIfInBounds_toArray, List.set_cons_zero, List.set_cons_succ, i64_w, i32_w]
                rfl
              refine pure_ (i := 8) (N := some 50) (v := ?_) (a' := ?_) #[true, true, true, true, false, true, false, true, true, false, false, false, false, false, false, false, false] rfl rfl (by kernel_rfl) (fun _ _ _ h => h) (Or.inl ⟨by rfl, ?_⟩) ?_ ?_
              rotate_left
              · intro w'
                go_simp
                with_reducible rfl
              rotate_left
              · simp only [Act.put, List.setIfInBounds_toArray, List.set_cons_zero, List.set_cons_succ, i64_w, i32_w]
                rfl
              refine pure_ (i := 9) (N := some 51) (v := ?_) (a' := ?_) #[true, true, true, true, false, true, false, true, true, true, false, false, false, false, false, false, false] rfl rfl (by kernel_rfl) (fun _ _ _ h => h) (Or.inl ⟨by rfl, ?_⟩) ?_ ?_
              rotate_left
              · intro w'
                go_simp
                with_reducible rfl
              rotate_left
              · simp only [Act.put, List.setIfInBounds_toArray, List.set_cons_zero, List.set_cons_succ, i64_w, i32_w]
                rfl
              refine pure_ (i := 11) (N := some 53) (v := ?_) (a' := ?_) #[true, true, true, true, false, true, false, true, true, true, false, true, false, false, false, false, false] rfl rfl (by kernel_rfl) (fun _ _ _ h => h) (Or.inl ⟨by rfl, ?_⟩) ?_ ?_
              rotate_left
              · intro w'
                go_simp
                with_reducible rfl
              rotate_left
              · simp only [Act.put, List.setIfInBounds_toArray, List.set_cons_zero, List.set_cons_succ, i64_w, i32_w]
                rfl
              refine take_ (i := 4) (N := some 46) (v := ?_) (a' := ?_) #[true, true, true, true, true, true, false, true, true, true, false, true, false, false, false, false, false] rfl rfl (by kernel_rfl) (fun _ _ _ h => h) (Or.inl ⟨by rfl, ?_⟩) hHeld ?_ ?_
              rotate_left
              · rintro w' s0
                go_simp
                with_reducible rfl
              rotate_left
              · simp only [Act.put, List.setIfInBounds_toArray, List.set_cons_zero, List.set_cons_succ, i64_w, i32_w]
                rfl
              refine take_ (i := 10) (N := some 52) (v := ?_) (a' := ?_) #[true, true, true, true, true, true, false, true, true, true, true, true, false, false, false, false, false] rfl rfl (by kernel_rfl) (fun _ _ _ h => h) (Or.inl ⟨by rfl, ?_⟩) hHeld ?_ ?_
              rotate_left
              · rintro w' s0
                go_simp
                with_reducible rfl
              rotate_left
              · simp only [Act.put, List.setIfInBounds_toArray, List.set_cons_zero, List.set_cons_succ, i64_w, i32_w]
                rfl
              refine one_ (i := 6) (N := some 48) #[true, true, true, true, true, true, true, true, true, true, true, true, false, false, false, false, false] rfl rfl (by kernel_rfl) (by decide) (fun K hK => ?_)
              refine goes_ Try.func11 (by kernel_rfl) rfl #[.int .u32 next, .int .i64 (i : Int)] (by rfl) rfl rfl (by (try simp only [List.map_toArray, List.map_cons, List.map_nil]); first | done | rfl) ?_
              with_reducible refine (add_calls next (i : Int) _).mono ?_
              rintro e w' ⟨rfl, hw_⟩; obtain rfl := hw_.symm; clear hw_
              refine ⟨_, rfl, ?_⟩
              refine hK.out _ _ ((blk_cell BKr.out 0).trans rfl) (fun hHeld => ?_)
              clear hK K
              refine norm_ (a' := ?_) ?_ ?_
              rotate_left
              · show Act.put _ (some 48) _ = _
                simp only [Act.put, List.setIfInBounds_toArray, List.set_cons_zero, List.set_cons_succ, i64_w, i32_w]
                rfl
              refine one_ (i := 12) (N := some 54) #[true, true, true, true, true, true, true, true, true, true, true, true, true, false, false, false, false] rfl rfl (by kernel_rfl) (by decide) (fun K hK => ?_)
              refine goes_ Try.func11 (by kernel_rfl) rfl #[.int .u32 next, .int .i64 (j : Int)] (by rfl) rfl rfl (by (try simp only [List.map_toArray, List.map_cons, List.map_nil]); first | done | rfl) ?_
              with_reducible refine (add_calls next (j : Int) _).mono ?_
              rintro e w' ⟨rfl, hw_⟩; obtain rfl := hw_.symm; clear hw_
              refine ⟨_, rfl, ?_⟩
              refine hK.out _ _ ((blk_cell BKr.out 0).trans rfl) (fun hHeld => ?_)
              clear hK K
              refine norm_ (a' := ?_) ?_ ?_
              rotate_left
              · show Act.put _ (some 54) _ = _
                simp only [Act.put, List.setIfInBounds_toArray, List.set_cons_zero, List.set_cons_succ, i64_w, i32_w]
                rfl
              refine pure_ (i := 13) (N := some 55) (v := ?_) (a' := ?_) #[true, true, true, true, true, true, true, true, true, true, true, true, true, true, false, false, false] rfl rfl (by kernel_rfl) (fun _ _ _ h => h) (Or.inl ⟨by rfl, ?_⟩) ?_ ?_
              rotate_left
              · intro w'
                go_simp
                with_reducible rfl
              rotate_left
              · simp only [Act.put, List.setIfInBounds_toArray, List.set_cons_zero, List.set_cons_succ, i64_w, i32_w]
                rfl
              refine one_ (i := 14) (N := some 56) #[true, true, true, true, true, true, true, true, true, true, true, true, true, true, true, false, false] rfl rfl (by kernel_rfl) (by decide) (fun K hK => ?_)
              refine value_ (w1 := ?_) (v := ?_) (by rfl) rfl ?_ ?_
              rotate_left 2
              · go_simp
                constructor
                · rfl
                · rfl
              refine hK.out _ _ ((blk_cell (blk_alloc BKr.out _) 0).trans rfl) (fun hHeld => ?_)
              clear hK K
              refine norm_ (a' := ?_) ?_ ?_
              rotate_left
              · show Act.put _ (some 56) _ = _
                simp only [Act.put, List.setIfInBounds_toArray, List.set_cons_zero, List.set_cons_succ, i64_w, i32_w]
                rfl
              refine one_ (i := 15) (N := some 57) #[true, true, true, true, true, true, true, true, true, true, true, true, true, true, true, true, false] rfl rfl (by kernel_rfl) (by decide) (fun K hK => ?_)
              refine Kd.R_append_step k37 (w0 := w) w.heap.size (by rfl) (.tmp 42) (.tmp 56) 34 37 (.agg #[(.int .u32 0), (.int .u32 0)]) 8 rfl Try.underlying34 info37 rfl (by decide) (by omega) v1 out (⟨(addq next (i : Int)), (addq next (j : Int))⟩ : S37) [.int .u32 (addq next (i : Int)), .int .u32 (addq next (j : Int))] (fun _ => True) (fun _ => False) rfl rfl (k37_mkM _ _ _ (⟨(addq next (i : Int)), (addq next (j : Int))⟩ : S37)) (fun _ hk => hk.elim) (fun _ _ => trivial) HOr.out HBr.out HBr.out.size HNL.out ?_
              intro v2 y2 ho hb hg hat
              have BK2 := Aside0.mk (blk_grown BKr.out hg (Kd.R_ne HOr.out BKr.out (by decide)))
              have HB2 := Aside0.mk hb
              have HO2 := Aside0.mk ho
              obtain ⟨Av, nv, cv, ev⟩ := slice_any ho
              subst ev
              clear ho hb hg hat
              refine hK.out _ _ ((blk_cell BK2.out 0).trans rfl) (fun hHeld => ?_)
              clear hK K
              refine norm_ (a' := ?_) ?_ ?_
              rotate_left
              · show Act.put _ (some 57) _ = _
                simp only [Act.put, List.setIfInBounds_toArray, List.set_cons_zero, List.set_cons_succ, i64_w, i32_w]
                rfl
              refine pure_ (i := 16) (N := some 3) (v := ?_) (a' := ?_) #[true, true, true, true, true, true, true, true, true, true, true, true, true, true, true, true, true] rfl rfl (by kernel_rfl) (fun _ _ _ h => h) (Or.inl ⟨by rfl, ?_⟩) ?_ ?_
              rotate_left
              · intro w'
                go_simp
                with_reducible rfl
              rotate_left
              · simp only [Act.put, List.setIfInBounds_toArray, List.set_cons_zero, List.set_cons_succ, i64_w, i32_w]
                rfl
              refine done_ (by kernel_rfl) ?_
              try go_wp2
              go_roundg (there.length - (j + 1))
              case measure => have := HI.out; have := HJ2.out; omega
              case rel => exact ⟨j + 1, f1, _, out ++ [⟨addq next (i : Int), addq next (j : Int)⟩], rfl, by first | rw [t8] | rfl | simp, ⟨rfl⟩, ⟨by omega⟩, ⟨by have := HF.out; have := HJ2.out; omega⟩, HE3, HO2, HB2⟩
            · obtain ⟨gt2, ot2, eA, m3, m4⟩ := HG.out.mark j hs
              injection eA with eA
              injection eA with eA1 eA2 _
              subst eA1
              subst eA2
              rw [hf] at m3
              have t4 : decide ((j : Int) < (there.length : Int)) = true := decide_eq_true (by omega)
              have t5 : decide (j < there.length) = true := decide_eq_true (by omega)
              have a4 : (j : Int) < (there.length : Int) := by omega
              clear hs hf
              go_wp2
              have BKr : Aside0 (wr.drew.heap[g]? = some (.cells #[.int .u32 next, .int .i64 room, vr, vd, .slice (some ⟨gt, ot, none⟩) there.length ct] 51 (0, 0))) := ⟨BK.out⟩
              have HBr := Aside0.mk (below_drew1 HB.out)
              have HOr := Aside0.mk (Kd.R_drew HO.out)
              refine start_ (n := 17) (S := fun w' => w'.cell? ⟨g, 0, none⟩ = some (.int .u32 next)) (ds := []) #[false, false, false, false, false, false, false, false, false, false, false, false, false, false, false, false, false] (by kernel_rfl) rfl rfl ((blk_cell BKr.out 0).trans rfl) (fun hHeld => ?_)
              generalize wr.drew = wd at BKr HBr HOr hHeld ⊢
              refine pure_ (i := 0) (N := some 42) (v := ?_) (a' := ?_) #[true, false, false, false, false, false, false, false, false, false, false, false, false, false, false, false, false] rfl rfl (by kernel_rfl) (fun _ _ _ h => h) (Or.inl ⟨by rfl, ?_⟩) ?_ ?_
              rotate_left
              · intro w'
                go_simp
                with_reducible rfl
              rotate_left
              · simp only [Act.put, List.setIfInBounds_toArray, List.set_cons_zero, List.set_cons_succ, i64_w, i32_w]
                rfl
              refine pure_ (i := 1) (N := some 43) (v := ?_) (a' := ?_) #[true, true, false, false, false, false, false, false, false, false, false, false, false, false, false, false, false] rfl rfl (by kernel_rfl) (fun _ _ _ h => h) (Or.inl ⟨by rfl, ?_⟩) ?_ ?_
              rotate_left
              · intro w'
                go_simp
                with_reducible rfl
              rotate_left
              · simp only [Act.put, List.setIfInBounds_toArray, List.set_cons_zero, List.set_cons_succ, i64_w, i32_w]
                rfl
              refine pure_ (i := 2) (N := some 44) (v := ?_) (a' := ?_) #[true, true, true, false, false, false, false, false, false, false, false, false, false, false, false, false, false] rfl rfl (by kernel_rfl) (fun _ _ _ h => h) (Or.inl ⟨by rfl, ?_⟩) ?_ ?_
              rotate_left
              · intro w'
                go_simp
                with_reducible rfl
              rotate_left
              · simp only [Act.put, List.setIfInBounds_toArray, List.set_cons_zero, List.set_cons_succ, i64_w, i32_w]
                rfl
              refine pure_ (i := 3) (N := some 45) (v := ?_) (a' := ?_) #[true, true, true, true, false, false, false, false, false, false, false, false, false, false, false, false, false] rfl rfl (by kernel_rfl) (fun _ _ _ h => h) (Or.inl ⟨by rfl, ?_⟩) ?_ ?_
              rotate_left
              · intro w'
                go_simp
                with_reducible rfl
              rotate_left
              · simp only [Act.put, List.setIfInBounds_toArray, List.set_cons_zero, List.set_cons_succ, i64_w, i32_w]
                rfl
              refine pure_ (i := 5) (N := some 47) (v := ?_) (a' := ?_) #[true, true, true, true, false, true, false, false, false, false, false, false, false, false, false, false, false] rfl rfl (by kernel_rfl) (fun _ _ _ h => h) (Or.inl ⟨by rfl, ?_⟩) ?_ ?_
              rotate_left
              · intro w'
                go_simp
                with_reducible rfl
              rotate_left
              · simp only [Act.put, List.setIfInBounds_toArray, List.set_cons_zero, List.set_cons_succ, i64_w, i32_w]
                rfl
              refine pure_ (i := 7) (N := some 49) (v := ?_) (a' := ?_) #[true, true, true, true, false, true, false, true, false, false, false, false, false, false, false, false, false] rfl rfl (by kernel_rfl) (fun _ _ _ h => h) (Or.inl ⟨by rfl, ?_⟩) ?_ ?_
              rotate_left
              · intro w'
                go_simp
                with_reducible rfl
              rotate_left
              · simp only [Act.put, List.setIfInBounds_toArray, List.set_cons_zero, List.set_cons_succ, i64_w, i32_w]
                rfl
              refine pure_ (i := 8) (N := some 50) (v := ?_) (a' := ?_) #[true, true, true, true, false, true, false, true, true, false, false, false, false, false, false, false, false] rfl rfl (by kernel_rfl) (fun _ _ _ h => h) (Or.inl ⟨by rfl, ?_⟩) ?_ ?_
              rotate_left
              · intro w'
                go_simp
                with_reducible rfl
              rotate_left
              · simp only [Act.put, List.setIfInBounds_toArray, List.set_cons_zero, List.set_cons_succ, i64_w, i32_w]
                rfl
              refine pure_ (i := 9) (N := some 51) (v := ?_) (a' := ?_) #[true, true, true, true, false, true, false, true, true, true, false, false, false, false, false, false, false] rfl rfl (by kernel_rfl) (fun _ _ _ h => h) (Or.inl ⟨by rfl, ?_⟩) ?_ ?_
              rotate_left
              · intro w'
                go_simp
                with_reducible rfl
              rotate_left
              · simp only [Act.put, List.setIfInBounds_toArray, List.set_cons_zero, List.set_cons_succ, i64_w, i32_w]
                rfl
              refine pure_ (i := 11) (N := some 53) (v := ?_) (a' := ?_) #[true, true, true, true, false, true, false, true, true, true, false, true, false, false, false, false, false] rfl rfl (by kernel_rfl) (fun _ _ _ h => h) (Or.inl ⟨by rfl, ?_⟩) ?_ ?_
              rotate_left
              · intro w'
                go_simp
                with_reducible rfl
              rotate_left
              · simp only [Act.put, List.setIfInBounds_toArray, List.set_cons_zero, List.set_cons_succ, i64_w, i32_w]
                rfl
              refine take_ (i := 4) (N := some 46) (v := ?_) (a' := ?_) #[true, true, true, true, true, true, false, true, true, true, false, true, false, false, false, false, false] rfl rfl (by kernel_rfl) (fun _ _ _ h => h) (Or.inl ⟨by rfl, ?_⟩) hHeld ?_ ?_
              rotate_left
              · rintro w' s0
                go_simp
                with_reducible rfl
              rotate_left
              · simp only [Act.put, List.setIfInBounds_toArray, List.set_cons_zero, List.set_cons_succ, i64_w, i32_w]
                rfl
              refine take_ (i := 10) (N := some 52) (v := ?_) (a' := ?_) #[true, true, true, true, true, true, false, true, true, true, true, true, false, false, false, false, false] rfl rfl (by kernel_rfl) (fun _ _ _ h => h) (Or.inl ⟨by rfl, ?_⟩) hHeld ?_ ?_
              rotate_left
              · rintro w' s0
                go_simp
                with_reducible rfl
              rotate_left
              · simp only [Act.put, List.setIfInBounds_toArray, List.set_cons_zero, List.set_cons_succ, i64_w, i32_w]
                rfl
              refine one_ (i := 6) (N := some 48) #[true, true, true, true, true, true, true, true, true, true, true, true, false, false, false, false, false] rfl rfl (by kernel_rfl) (by decide) (fun K hK => ?_)
              refine goes_ Try.func11 (by kernel_rfl) rfl #[.int .u32 next, .int .i64 (i : Int)] (by rfl) rfl rfl (by (try simp only [List.map_toArray, List.map_cons, List.map_nil]); first | done | rfl) ?_
              with_reducible refine (add_calls next (i : Int) _).mono ?_
              rintro e w' ⟨rfl, hw_⟩; obtain rfl := hw_.symm; clear hw_
              refine ⟨_, rfl, ?_⟩
              refine hK.out _ _ ((blk_cell BKr.out 0).trans rfl) (fun hHeld => ?_)
              clear hK K
              refine norm_ (a' := ?_) ?_ ?_
              rotate_left
              · show Act.put _ (some 48) _ = _
                simp only [Act.put, List.setIfInBounds_toArray, List.set_cons_zero, List.set_cons_succ, i64_w, i32_w]
                rfl
              refine one_ (i := 12) (N := some 54) #[true, true, true, true, true, true, true, true, true, true, true, true, true, false, false, false, false] rfl rfl (by kernel_rfl) (by decide) (fun K hK => ?_)
              refine goes_ Try.func11 (by kernel_rfl) rfl #[.int .u32 next, .int .i64 (j : Int)] (by rfl) rfl rfl (by (try simp only [List.map_toArray, List.map_cons, List.map_nil]); first | done | rfl) ?_
              with_reducible refine (add_calls next (j : Int) _).mono ?_
              rintro e w' ⟨rfl, hw_⟩; obtain rfl := hw_.symm; clear hw_
              refine ⟨_, rfl, ?_⟩
              refine hK.out _ _ ((blk_cell BKr.out 0).trans rfl) (fun hHeld => ?_)
              clear hK K
              refine norm_ (a' := ?_) ?_ ?_
              rotate_left
              · show Act.put _ (some 54) _ = _
                simp only [Act.put, List.setIfInBounds_toArray, List.set_cons_zero, List.set_cons_succ, i64_w, i32_w]
                rfl
              refine pure_ (i := 13) (N := some 55) (v := ?_) (a' := ?_) #[true, true, true, true, true, true, true, true, true, true, true, true, true, true, false, false, false] rfl rfl (by kernel_rfl) (fun _ _ _ h => h) (Or.inl ⟨by rfl, ?_⟩) ?_ ?_
              rotate_left
              · intro w'
                go_simp
                with_reducible rfl
              rotate_left
              · simp only [Act.put, List.setIfInBounds_toArray, List.set_cons_zero, List.set_cons_succ, i64_w, i32_w]
                rfl
              refine one_ (i := 14) (N := some 56) #[true, true, true, true, true, true, true, true, true, true, true, true, true, true, true, false, false] rfl rfl (by kernel_rfl) (by decide) (fun K hK => ?_)
              refine value_ (w1 := ?_) (v := ?_) (by rfl) rfl ?_ ?_
              rotate_left 2
              · go_simp
                constructor
                · rfl
                · rfl
              refine hK.out _ _ ((blk_cell (blk_alloc BKr.out _) 0).trans rfl) (fun hHeld => ?_)
              clear hK K
              refine norm_ (a' := ?_) ?_ ?_
              rotate_left
              · show Act.put _ (some 56) _ = _
                simp only [Act.put, List.setIfInBounds_toArray, List.set_cons_zero, List.set_cons_succ, i64_w, i32_w]
                rfl
              refine one_ (i := 15) (N := some 57) #[true, true, true, true, true, true, true, true, true, true, true, true, true, true, true, true, false] rfl rfl (by kernel_rfl) (by decide) (fun K hK => ?_)
              refine Kd.R_append_step k37 (w0 := w) w.heap.size (by rfl) (.tmp 42) (.tmp 56) 34 37 (.agg #[(.int .u32 0), (.int .u32 0)]) 8 rfl Try.underlying34 info37 rfl (by decide) (by omega) v1 out (⟨(addq next (i : Int)), (addq next (j : Int))⟩ : S37) [.int .u32 (addq next (i : Int)), .int .u32 (addq next (j : Int))] (fun _ => True) (fun _ => False) rfl rfl (k37_mkM _ _ _ (⟨(addq next (i : Int)), (addq next (j : Int))⟩ : S37)) (fun _ hk => hk.elim) (fun _ _ => trivial) HOr.out HBr.out HBr.out.size HNL.out ?_
              intro v2 y2 ho hb hg hat
              have BK2 := Aside0.mk (blk_grown BKr.out hg (Kd.R_ne HOr.out BKr.out (by decide)))
              have HB2 := Aside0.mk hb
              have HO2 := Aside0.mk ho
              obtain ⟨Av, nv, cv, ev⟩ := slice_any ho
              subst ev
              clear ho hb hg hat
              refine hK.out _ _ ((blk_cell BK2.out 0).trans rfl) (fun hHeld => ?_)
              clear hK K
              refine norm_ (a' := ?_) ?_ ?_
              rotate_left
              · show Act.put _ (some 57) _ = _
                simp only [Act.put, List.setIfInBounds_toArray, List.set_cons_zero, List.set_cons_succ, i64_w, i32_w]
                rfl
              refine pure_ (i := 16) (N := some 3) (v := ?_) (a' := ?_) #[true, true, true, true, true, true, true, true, true, true, true, true, true, true, true, true, true] rfl rfl (by kernel_rfl) (fun _ _ _ h => h) (Or.inl ⟨by rfl, ?_⟩) ?_ ?_
              rotate_left
              · intro w'
                go_simp
                with_reducible rfl
              rotate_left
              · simp only [Act.put, List.setIfInBounds_toArray, List.set_cons_zero, List.set_cons_succ, i64_w, i32_w]
                rfl
              refine done_ (by kernel_rfl) ?_
              try go_wp2
              go_roundg (there.length - (j + 1))
              case measure => have := HI.out; have := HJ2.out; omega
              case rel => exact ⟨j + 1, f1, _, out ++ [⟨addq next (i : Int), addq next (j : Int)⟩], rfl, by first | rw [t8] | rfl | simp, ⟨rfl⟩, ⟨by omega⟩, ⟨by have := HF.out; have := HJ2.out; omega⟩, HE3, HO2, HB2⟩
          | succ k2 =>
            have hj : j < i + lead (there.drop i) := by have := HJ.out; omega
            have hjl : j < there.length := by have := HIL.out; omega
            obtain ⟨gt2, ot2, eA, m3, m4⟩ := HG.out.mark j hjl
            injection eA with eA
            injection eA with eA1 eA2 _
            subst eA1
            subst eA2
            have hT : there.getD j false = true := by
              have h1 := lead_true (there.drop i) (j - i) (by have := HJ2.out; omega)
              rw [← getD_drop, show i + (j - i) = j by have := HJ2.out; omega] at h1
              exact h1
            rw [hT] at m3
            have t4 : decide ((j : Int) < (there.length : Int)) = true := decide_eq_true (by omega)
            have t5 : decide (j < there.length) = true := decide_eq_true (by omega)
            have a2 : (0 : Int) ≤ (j : Int) := by omega
            have a3 : (j : Int) < (there.length : Int) := by omega
            have t8 : wrap64 ((j : Int) + 1) = ((j + 1 : Nat) : Int) := by simp only [wrap64]; omega
            clear hle hT hj
            go_wp2
            go_roundg k2
            case measure => omega
            case rel => exact ⟨j + 1, by first | rw [t8] | rfl | simp, ⟨by have := HJ.out; omega⟩, ⟨by have := HJ2.out; omega⟩, ⟨rfl⟩⟩
end
end Go.Proofs.Ytpanenghlpipkaa.Recv
