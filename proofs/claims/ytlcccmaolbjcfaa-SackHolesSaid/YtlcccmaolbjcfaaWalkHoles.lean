/- The walk of the law SackHoles: the Go code comes to the answers of the plain functions below. -/
import Derived.Test.YtlcccmaolbjcfaaPSackMovesx0
import Derived.Test.YtlcccmaolbjcfaaPSackMovesx2
import Derived.Test.YtlcccmaolbjcfaaPSackMovesx3
import Derived.Test.YtlcccmaolbjcfaaPSackMovesx4
import Derived.Test.YtlcccmaolbjcfaaHeld
import Derived.Test.YtlcccmaolbjcfaaPSackMovesx6
import Derived.Test.YtlcccmaolbjcfaaHoles
namespace Go.Proofs.Ytlcccmaolbjcfaa.PSackMoves
open Go.RowKit Go.Proofs.YtlcccmaolbjcfaaW.PrintWords Go.Proofs.YtlcccmaolbjcfaaW.PrintLast Go.Proofs.YtlcccmaolbjcfaaW.PrintMore
attribute [local go_sem] max2_int min2_int max_two min_two max_three min_three max_four min_four   -- for this text's walks alone
set_option linter.unusedVariables false
set_option linter.unusedSimpArgs false

/-! ### patchbaykeep3_SackHoles: function 6 -/
def patchbaykeep3_SackHoles.j0 : Nat → Int → Int → List (S31) → Bool → Int → Int → List (S31) → Option (Bool)
  | 0, _, _, _, _, _, _, _ => none
  | k + 1, x0, x3, x11, x39, x203000, x203001, x203002 => if x39 = true then (some false) else (if (x203002.length : Int) = 0 then (some ((x11.length : Int) == 0)) else (if 0 ≤ (wrap64 ((x203002.length : Int) - 1)) then (if (wrap64 ((x203002.length : Int) - 1)) < (x203002.length : Int) then ((seq_Diff.f ((rd_T31 x203002 (wrap64 ((x203002.length : Int) - 1))).f1) x0).bind fun t208 => ((patchbaykeep3_rest.f x3 t208).bind fun t209 => ((seq_Add.f x0 t209).bind fun t210 => ((patchbaykeep3_has.f k x11 t210).bind fun t211 => ((patchbaykeep3_has.f k x203002 t210).bind fun t212 => (some (t211 != t212))))))) else (none)) else (none)))
def patchbaykeep3_SackHoles.f (k : Nat) (a0 : Int) (l1 : List Int) (l2 : List Int) (a3 : Int) : Option (Bool) := (patchbaykeep3_sackFact.f k).bind fun t191 => (if t191 = true then ((seq_Add.f a0 300).bind fun t192 => ((patchbaykeep3_blocks.f k a0 300 l1 l2).bind fun t193 => ((patchbaykeep3_held.f k a0 t192 ([] : List (S31)) t193).bind fun bt196 => ((sack_Holes.f k bt196.1 bt196.2.1 bt196.2.2.1).bind fun bt203 => (if bt196.2.2.2 = 0 then (patchbaykeep3_SackHoles.j0 k a0 a3 bt203.1 (bt203.2 != 0) bt196.1 bt196.2.1 bt196.2.2.1) else (patchbaykeep3_SackHoles.j0 k a0 a3 bt203.1 true bt196.1 bt196.2.1 bt196.2.2.1)))))) else (some false))
theorem patchbaykeep3_SackHoles.mono_l : ∀ k, (∀ y0 y1 y2 y3 y4 y5 y6, LeO (patchbaykeep3_SackHoles.j0 k y0 y1 y2 y3 y4 y5 y6) (patchbaykeep3_SackHoles.j0 (k + 1) y0 y1 y2 y3 y4 y5 y6))
  | 0 => fun _ _ _ _ _ _ _ r h => by simp [patchbaykeep3_SackHoles.j0] at h
  | k + 1 => by
    have ih0 := patchbaykeep3_SackHoles.mono_l k
    · intro y0 y1 y2 y3 y4 y5 y6
      unfold patchbaykeep3_SackHoles.j0
      repeat' first
      | (with_reducible exact ih0 _ _ _ _ _ _ _)
      | (with_reducible exact patchbaykeep3_blocks.mono _ _ _ _ _)
      | (with_reducible exact patchbaykeep3_has.mono _ _ _)
      | (with_reducible exact patchbaykeep3_held.mono _ _ _ _ _)
      | (with_reducible exact patchbaykeep3_sackFact.mono _)
      | (with_reducible exact sack_Holes.mono _ _ _ _)
      | (with_reducible exact LeO.refl _)
      | (with_reducible exact LeO.none _)
      | (with_reducible refine LeO.ite ?_ ?_)
      | (with_reducible refine LeO.bind ?_ (fun _ => ?_))
      | exact ih0 _ _ _ _ _ _ _
      | exact patchbaykeep3_blocks.mono _ _ _ _ _
      | exact patchbaykeep3_has.mono _ _ _
      | exact patchbaykeep3_held.mono _ _ _ _ _
      | exact patchbaykeep3_sackFact.mono _
      | exact sack_Holes.mono _ _ _ _
      | exact LeO.none _
      | refine LeO.ite ?_ ?_
      | refine LeO.bind ?_ (fun _ => ?_)
theorem patchbaykeep3_SackHoles.mono : ∀ a0 a1 a2 a3 k, LeO (patchbaykeep3_SackHoles.f k a0 a1 a2 a3) (patchbaykeep3_SackHoles.f (k + 1) a0 a1 a2 a3) := by
  intro a0 a1 a2 a3 k
  have ih0 := patchbaykeep3_SackHoles.mono_l k
  unfold patchbaykeep3_SackHoles.f
  repeat' first
      | (with_reducible exact ih0 _ _ _ _ _ _ _)
      | (with_reducible exact patchbaykeep3_blocks.mono _ _ _ _ _)
      | (with_reducible exact patchbaykeep3_has.mono _ _ _)
      | (with_reducible exact patchbaykeep3_held.mono _ _ _ _ _)
      | (with_reducible exact patchbaykeep3_sackFact.mono _)
      | (with_reducible exact sack_Holes.mono _ _ _ _)
      | (with_reducible exact LeO.refl _)
      | (with_reducible exact LeO.none _)
      | (with_reducible refine LeO.ite ?_ ?_)
      | (with_reducible refine LeO.bind ?_ (fun _ => ?_))
      | exact ih0 _ _ _ _ _ _ _
      | exact patchbaykeep3_blocks.mono _ _ _ _ _
      | exact patchbaykeep3_has.mono _ _ _
      | exact patchbaykeep3_held.mono _ _ _ _ _
      | exact patchbaykeep3_sackFact.mono _
      | exact sack_Holes.mono _ _ _ _
      | exact LeO.none _
      | refine LeO.ite ?_ ?_
      | refine LeO.bind ?_ (fun _ => ?_)
def patchbaykeep3_SackHoles.T11 : Bool × List (List Nat × List Nat) := (true, [([], []), ([], []), ([0, 1], [0, 1]), ([], []), ([3], [3]), ([], []), ([4, 5, 2], [4, 5]), ([2, 6], [2, 6]), ([7, 6, 0, 1, 2, 3, 4, 5, 6, 7], [7])])
def patchbaykeep3_SackHoles.B11 : List Nat := [0, 0, 3, 0, 8, 0, 63, 127, 255]
theorem patchbaykeep3_SackHoles.tab11 : rtab .any (opsOf Try.f6 11) = patchbaykeep3_SackHoles.T11 := by kernel_rfl
theorem patchbaykeep3_SackHoles.bits11 : waitsOk patchbaykeep3_SackHoles.T11.2 patchbaykeep3_SackHoles.B11 = true := by kernel_rfl
set_option maxHeartbeats 8000000 in
set_option maxRecDepth 100000 in
theorem patchbaykeep3_SackHoles.calls (k : Nat) (a0 : Int) (A1 : Option Addr) (c1 : Nat) (l1 : List Int) (A2 : Option Addr) (c2 : Nat) (l2 : List Int) (a3 : Int) (r : Bool) (w : World) (hr1 : Kd.C (Kd.int .i64) w A1 l1.length l1) (hc1 : l1.length ≤ c1) (hr2 : Kd.C (Kd.int .i64) w A2 l2.length l2) (hc2 : l2.length ≤ c2) (h : patchbaykeep3_SackHoles.f k a0 l1 l2 a3 = some r) :
    Calls Try.prog 6 #[.int .u32 a0, .slice A1 l1.length c1, .slice A2 l2.length c2, .int .i64 a3] w fun e w' => e = .returned (.bool r) ∧ Below w.heap.size w w' := by
  have hu34 := Try.underlying34
  have HR1 := Aside0.mk hr1
  have HC1 := Aside0.mk hc1
  clear hr1 hc1
  have HR2 := Aside0.mk hr2
  have HC2 := Aside0.mk hc2
  clear hr2 hc2
  have HB := Aside0.mk (Below.refl w.heap.size w)
  have H : ((patchbaykeep3_sackFact.f k).bind fun t191 => (if t191 = true then ((seq_Add.f a0 300).bind fun t192 => ((patchbaykeep3_blocks.f k a0 300 l1 l2).bind fun t193 => ((patchbaykeep3_held.f k a0 t192 ([] : List (S31)) t193).bind fun bt196 => ((sack_Holes.f k bt196.1 bt196.2.1 bt196.2.2.1).bind fun bt203 => (if bt196.2.2.2 = 0 then (patchbaykeep3_SackHoles.j0 k a0 a3 bt203.1 (bt203.2 != 0) bt196.1 bt196.2.1 bt196.2.2.1) else (patchbaykeep3_SackHoles.j0 k a0 a3 bt203.1 true bt196.1 bt196.2.1 bt196.2.2.1)))))) else (some false))) = some r := h
  clear h
  replace H := Option.bind_eq_some_iff.mp H
  obtain ⟨t191, A50, H⟩ := H
  replace H : (if t191 = true then ((seq_Add.f a0 300).bind fun t192 => ((patchbaykeep3_blocks.f k a0 300 l1 l2).bind fun t193 => ((patchbaykeep3_held.f k a0 t192 ([] : List (S31)) t193).bind fun bt196 => ((sack_Holes.f k bt196.1 bt196.2.1 bt196.2.2.1).bind fun bt203 => (if bt196.2.2.2 = 0 then (patchbaykeep3_SackHoles.j0 k a0 a3 bt203.1 (bt203.2 != 0) bt196.1 bt196.2.1 bt196.2.2.1) else (patchbaykeep3_SackHoles.j0 k a0 a3 bt203.1 true bt196.1 bt196.2.1 bt196.2.2.1)))))) else (some false)) = some r := H
  have A5 := Aside0.mk A50
  clear A50
  by_cases c6 : t191 = true
  · subst c6
    have H1 : ((seq_Add.f a0 300).bind fun t192 => ((patchbaykeep3_blocks.f k a0 300 l1 l2).bind fun t193 => ((patchbaykeep3_held.f k a0 t192 ([] : List (S31)) t193).bind fun bt196 => ((sack_Holes.f k bt196.1 bt196.2.1 bt196.2.2.1).bind fun bt203 => (if bt196.2.2.2 = 0 then (patchbaykeep3_SackHoles.j0 k a0 a3 bt203.1 (bt203.2 != 0) bt196.1 bt196.2.1 bt196.2.2.1) else (patchbaykeep3_SackHoles.j0 k a0 a3 bt203.1 true bt196.1 bt196.2.1 bt196.2.2.1)))))) = some r := by rw [if_pos rfl] at H; exact H
    clear H
    have H := H1
    clear H1
    replace H := Option.bind_eq_some_iff.mp H
    obtain ⟨t192, A70, H⟩ := H
    replace H : ((patchbaykeep3_blocks.f k a0 300 l1 l2).bind fun t193 => ((patchbaykeep3_held.f k a0 t192 ([] : List (S31)) t193).bind fun bt196 => ((sack_Holes.f k bt196.1 bt196.2.1 bt196.2.2.1).bind fun bt203 => (if bt196.2.2.2 = 0 then (patchbaykeep3_SackHoles.j0 k a0 a3 bt203.1 (bt203.2 != 0) bt196.1 bt196.2.1 bt196.2.2.1) else (patchbaykeep3_SackHoles.j0 k a0 a3 bt203.1 true bt196.1 bt196.2.1 bt196.2.2.1))))) = some r := H
    have A7 := Aside0.mk A70
    clear A70
    replace H := Option.bind_eq_some_iff.mp H
    obtain ⟨t193, A80, H⟩ := H
    replace H : ((patchbaykeep3_held.f k a0 t192 ([] : List (S31)) t193).bind fun bt196 => ((sack_Holes.f k bt196.1 bt196.2.1 bt196.2.2.1).bind fun bt203 => (if bt196.2.2.2 = 0 then (patchbaykeep3_SackHoles.j0 k a0 a3 bt203.1 (bt203.2 != 0) bt196.1 bt196.2.1 bt196.2.2.1) else (patchbaykeep3_SackHoles.j0 k a0 a3 bt203.1 true bt196.1 bt196.2.1 bt196.2.2.1)))) = some r := H
    have A8 := Aside0.mk A80
    clear A80
    replace H := Option.bind_eq_some_iff.mp H
    obtain ⟨⟨t196, t197, t198, t201⟩, A90, H⟩ := H
    replace H : ((sack_Holes.f k t196 t197 t198).bind fun bt203 => (if t201 = 0 then (patchbaykeep3_SackHoles.j0 k a0 a3 bt203.1 (bt203.2 != 0) t196 t197 t198) else (patchbaykeep3_SackHoles.j0 k a0 a3 bt203.1 true t196 t197 t198))) = some r := H
    have A9 := Aside0.mk A90
    clear A90
    replace H := Option.bind_eq_some_iff.mp H
    obtain ⟨⟨t203, t206⟩, A100, H⟩ := H
    replace H : (if t201 = 0 then (patchbaykeep3_SackHoles.j0 k a0 a3 t203 (t206 != 0) t196 t197 t198) else (patchbaykeep3_SackHoles.j0 k a0 a3 t203 true t196 t197 t198)) = some r := H
    have A10 := Aside0.mk A100
    clear A100
    have HC11 := Aside0.mk H
    clear H
    go_enter Try.func6, Try.ntmps6
    go_upto_region 5 with (first | ((with_reducible refine gate_callee (f := 13) rfl ?_); refine goesL_ (some 15) rfl rfl Try.func13 (by kernel_rfl) rfl #[] rfl (by (try simp only [List.map_toArray, List.map_cons, List.map_nil]); first | done | rfl | (simp only [List.length_drop, List.length_take]; rfl)) ?_; (with_reducible refine (patchbaykeep3_sackFact.calls k  true _ A5.out).mono ?_); rintro e w12 ⟨rfl, hb⟩; refine ⟨_, rfl, ?_⟩; have n0_ := Aside0.mk (below_step (by repeat (first | (with_reducible first | exact HB.out | apply below_alloc | apply pw_below_drewN | apply below_drew1) | exact HB.out)) hb); clear HB; have HB := n0_; clear n0_; (try clear hb); (try clear hb2); (try clear hk); (try clear hi)) | ((with_reducible refine gate_callee (f := 15) rfl ?_); refine goesL_ (some 20) rfl rfl Try.func15 (by kernel_rfl) rfl #[.int .u32 a0, .int .i64 300] rfl (by (try simp only [List.map_toArray, List.map_cons, List.map_nil]); first | done | rfl | (simp only [List.length_drop, List.length_take]; rfl)) ?_; (with_reducible refine (seq_Add.calls a0 300 t192 _ A7.out).mono ?_); rintro e w' ⟨rfl, ⟨nd, rfl⟩⟩; refine ⟨_, rfl, ?_⟩; (try (rw [drewN_self w12]; generalize hq_ : World.drewN w12 _ = w12; have n0_ : Aside0 (Below w.heap.size w w12) := ⟨by rw [← hq_]; exact (by repeat (first | (with_reducible first | exact HB.out | apply below_alloc | apply pw_below_drewN | apply below_drew1) | exact HB.out))⟩; clear HB hq_; have HB := n0_; clear n0_))) | ((with_reducible refine gate_callee (f := 14) rfl ?_); refine goesL_ (some 25) rfl rfl Try.func14 (by kernel_rfl) rfl #[.int .u32 a0, .int .i64 300, .slice A1 l1.length c1, .slice A2 l2.length c2] rfl (by (try simp only [List.map_toArray, List.map_cons, List.map_nil]); first | done | rfl | (simp only [List.length_drop, List.length_take]; rfl)) ?_; (with_reducible refine (patchbaykeep3_blocks.calls k a0 300 _ _ l1 _ _ l2 t193 _ ?side1 ?side2 ?side3 ?side4 A8.out).mono ?_); (case side1 => repeat (first | exact (Kd.C_below HR1.out HB.out) | (with_reducible refine Kd.C_alloc ?_ _) | (with_reducible refine Kd.C_drewN ?_ _) | (with_reducible refine Kd.C_drew ?_))); (case side2 => exact HC1.out); (case side3 => repeat (first | exact (Kd.C_below HR2.out HB.out) | (with_reducible refine Kd.C_alloc ?_ _) | (with_reducible refine Kd.C_drewN ?_ _) | (with_reducible refine Kd.C_drew ?_))); (case side4 => exact HC2.out); rintro e w13 ⟨v194, rfl, ho0, hb⟩; refine ⟨_, rfl, ?_⟩; have n0_ := Aside0.mk (Kd.R_lower ho0 (below_size (by repeat (first | (with_reducible first | exact HB.out | apply below_alloc | apply pw_below_drewN | apply below_drew1) | exact HB.out)))); have n1_ := Aside0.mk (below_step (by repeat (first | (with_reducible first | exact HB.out | apply below_alloc | apply pw_below_drewN | apply below_drew1) | exact HB.out)) hb); clear HB; have HO195 := n0_; have HB := n1_; clear n0_ n1_; (try clear hb); (try clear hb2); (try clear hk); (try clear hi); (try clear ho0); obtain ⟨Ao14, co14, eo14⟩ := Kd.R_slice HO195.out; subst eo14) | ((with_reducible refine gate_callee (f := 16) rfl ?_); refine goesL_ (some 26) rfl rfl Try.func16 (by kernel_rfl) rfl #[.agg #[.int .u32 a0, .int .u32 t192, .slice none 0 0], .slice Ao14 t193.length co14] rfl (by (try simp only [List.map_toArray, List.map_cons, List.map_nil]); first | done | rfl | (simp only [List.length_drop, List.length_take]; rfl)) ?_; (refine (patchbaykeep3_held.calls k a0 t192 (fun k_ => False) _ _ ([] : List (S31)) _ _ t193 t196 t197 t198 t201 _ ?side1 ?side2 ?side3 A9.out).mono ?_); (case side1 => exact Kd.V_nil _ _ _ _ _); (case side2 => repeat (first | exact (Kd.R_reads' HO195.out).2.2 | (with_reducible refine Kd.C_alloc ?_ _) | (with_reducible refine Kd.C_drewN ?_ _) | (with_reducible refine Kd.C_drew ?_))); (case side3 => exact (Kd.R_reads' HO195.out).2.1); rintro e w15 ⟨v199, rfl, ho0, hb⟩; refine ⟨_, rfl, ?_⟩; have n0_ := Aside0.mk (Kd.R_below (by (with_reducible repeat (first | apply Kd.R_alloc | apply Kd.R_drewN | apply Kd.R_drew)); exact HO195.out) hb); have n1_ := Aside0.mk (Kd.V_lower (Kd.V_mono (ok' := fun k_ => some k_ ≠ (.slice Ao14 t193.length co14 : Value).ownBlock) ho0 (fun k_ hk_ => Or.elim hk_ (fun hs_ => (hs_).elim) (fun hn_ => (Kd.fresh' (Kd.R_lt (by (with_reducible repeat (first | apply Kd.R_alloc | apply Kd.R_drewN | apply Kd.R_drew)); exact HO195.out)) k_ hn_)))) (below_size (by repeat (first | (with_reducible first | exact HB.out | apply below_alloc | apply pw_below_drewN | apply below_drew1) | exact HB.out)))); have n2_ := Aside0.mk (below_step (by repeat (first | (with_reducible first | exact HB.out | apply below_alloc | apply pw_below_drewN | apply below_drew1) | exact HB.out)) hb); clear HO195; clear HB; have HO195 := n0_; have HO200 := n1_; have HB := n2_; clear n0_ n1_ n2_; (try clear hb); (try clear hb2); (try clear hk); (try clear hi); (try clear ho0)) | ((with_reducible refine gate_dst (N := 9) rfl ?_); refine box_event ?hg (N := 9) ?hd (cs := #[.int .u32 0, .int .u32 0, .slice none 0 0]) (t := 34) ?hr ?_; (case hd => rfl); (case hg => rfl); (case hr => first | (go_simp; done) | (go_simp; rfl)); intro gb202 hg w16 hbox hb; have n0_ := Aside0.mk (Kd.R_below (by (with_reducible repeat (first | apply Kd.R_alloc | apply Kd.R_drewN | apply Kd.R_drew)); exact HO195.out) hb); have n1_ := Aside0.mk (Kd.V_below (Kd.V_elderB (by (with_reducible repeat (first | apply Kd.V_alloc | apply Kd.V_drewN | apply Kd.V_drew)); exact HO200.out) gb202 (Nat.le_of_eq hg.symm)) hb); have n2_ := Aside0.mk (below_step (by repeat (first | (with_reducible first | exact HB.out | apply below_alloc | apply pw_below_drewN | apply below_drew1) | exact HB.out)) hb); have n3_ := Aside0.mk (hbox); have n4_ := Aside0.mk ((by rw [hg]; exact (below_size (by repeat (first | (with_reducible first | exact HB.out | apply below_alloc | apply pw_below_drewN | apply below_drew1) | exact HB.out))) : w.heap.size ≤ gb202)); have n5_ := Aside0.mk ((by rw [hg]; exact (below_size (by repeat (first | (with_reducible first | exact HB.out | apply below_alloc | apply pw_below_drewN | apply below_drew1) | exact HB.out))) : w.heap.size ≤ gb202)); clear HO195; clear HO200; clear HB; have HO195 := n0_; have HO200 := n1_; have HB := n2_; have BK202 := n3_; have GW202 := n4_; have GE202 := n5_; clear n0_ n1_ n2_ n3_ n4_ n5_; clear hb hbox hg; have hcz17_0 : w16.cell? ⟨gb202, 0, none⟩ = some (.int .u32 0) := (blk_cell BK202.out 0).trans rfl; have hcz17_1 : w16.cell? ⟨gb202, 1, none⟩ = some (.int .u32 0) := (blk_cell BK202.out 1).trans rfl; have hcz17_2 : w16.cell? ⟨gb202, 2, none⟩ = some (.slice none 0 0) := (blk_cell BK202.out 2).trans rfl; have hfz17_0 := blk_frozen BK202.out 0; have hfz17_1 := blk_frozen BK202.out 1; have hfz17_2 := blk_frozen BK202.out 2; obtain ⟨Ao18, co18, eo18⟩ := Kd.V_slice HO200.out; subst eo18) | ((with_reducible refine gate_callee (f := 22) rfl ?_); refine goesL_ (some 31) rfl rfl Try.func22 (by kernel_rfl) rfl #[.agg #[.int .u32 t196, .int .u32 t197, .slice Ao18 t198.length co18]] rfl (by (try simp only [List.map_toArray, List.map_cons, List.map_nil]); first | done | rfl | (simp only [List.length_drop, List.length_take]; rfl)) ?_; (with_reducible refine (sack_Holes.calls k t196 t197 _ _ t198 t203 t206 _ ?side1 ?side2 A10.out).mono ?_); (case side1 => refine (Kd.V_reads' (e := 31) (base := w.heap.size) (ok := fun k_ => (some k_ ≠ (.slice Ao14 t193.length co14 : Value).ownBlock ∧ k_ ≠ gb202)) (n := t198.length) (c := co18) ?_).2.2; exact (by (with_reducible repeat (first | apply Kd.V_alloc | apply Kd.V_drewN | apply Kd.V_drew)); exact (Kd.V_mono (Kd.V_far (p := ⟨gb202, 2, none⟩) (Kd.V_far (p := ⟨gb202, 1, none⟩) (Kd.V_far (p := ⟨gb202, 0, none⟩) (Kd.V_mono HO200.out (fun k_ hk => (⟨hk, hk.2⟩ : _ ∧ k_ ≠ gb202))) (fun _ hk => hk.2) (.int .u32 t196)) (fun _ hk => hk.2) (.int .u32 t197)) (fun _ hk => hk.2) (.slice Ao18 t198.length co18)) (fun _ h_ => h_.1)))); (case side2 => exact (Kd.V_reads' HO200.out).2.1); rintro e w19 ⟨v204, rfl, ho0, hb⟩; refine ⟨_, rfl, ?_⟩; have n0_ := Aside0.mk (Kd.R_elder' (by (with_reducible repeat (first | apply Kd.R_alloc | apply Kd.R_drewN | apply Kd.R_drew)); exact (Kd.R_mono (Kd.R_far (p := ⟨gb202, 2, none⟩) (Kd.R_far (p := ⟨gb202, 1, none⟩) (Kd.R_far (p := ⟨gb202, 0, none⟩) (Kd.R_types HO195.out BK202.out (by decide)) (fun _ hk => hk.2) (.int .u32 t196)) (fun _ hk => hk.2) (.int .u32 t197)) (fun _ hk => hk.2) (.slice Ao18 t198.length co18)) (fun _ h_ => h_.1))) (Kd.R_base ho0) hb); have n1_ := Aside0.mk (Kd.V_elder' (by (with_reducible repeat (first | apply Kd.V_alloc | apply Kd.V_drewN | apply Kd.V_drew)); exact (Kd.V_mono (Kd.V_far (p := ⟨gb202, 2, none⟩) (Kd.V_far (p := ⟨gb202, 1, none⟩) (Kd.V_far (p := ⟨gb202, 0, none⟩) (Kd.V_mono HO200.out (fun k_ hk => (⟨hk, hk.2⟩ : _ ∧ k_ ≠ gb202))) (fun _ hk => hk.2) (.int .u32 t196)) (fun _ hk => hk.2) (.int .u32 t197)) (fun _ hk => hk.2) (.slice Ao18 t198.length co18)) (fun _ h_ => h_.1))) (Kd.R_base ho0) hb); have n2_ := Aside0.mk (Kd.R_lower (Kd.R_new' ho0 (Kd.R_lt (by (with_reducible repeat (first | apply Kd.R_alloc | apply Kd.R_drewN | apply Kd.R_drew)); exact (Kd.R_mono (Kd.R_far (p := ⟨gb202, 2, none⟩) (Kd.R_far (p := ⟨gb202, 1, none⟩) (Kd.R_far (p := ⟨gb202, 0, none⟩) (Kd.R_types HO195.out BK202.out (by decide)) (fun _ hk => hk.2) (.int .u32 t196)) (fun _ hk => hk.2) (.int .u32 t197)) (fun _ hk => hk.2) (.slice Ao18 t198.length co18)) (fun _ h_ => h_.1))))) (below_size (by repeat (first | (with_reducible first | exact HB.out | apply below_alloc | apply pw_below_drewN | apply below_drew1 | refine below_set ?_ GE202.out) | exact HB.out)))); have n3_ := Aside0.mk (blk_below (g := gb202) (o := .cells #[.int .u32 t196, .int .u32 t197, .slice Ao18 t198.length co18] 34 (0, 0)) (by (with_reducible repeat (first | refine blk_drewN ?_ _ | refine blk_drew ?_ | refine blk_alloc ?_ _)); refine blk_put (cs := #[.int .u32 t196, .int .u32 t197, .slice none 0 0]) ?_ 2 _ rfl; (with_reducible repeat (first | refine blk_drewN ?_ _ | refine blk_drew ?_ | refine blk_alloc ?_ _)); refine blk_put (cs := #[.int .u32 t196, .int .u32 0, .slice none 0 0]) ?_ 1 _ rfl; (with_reducible repeat (first | refine blk_drewN ?_ _ | refine blk_drew ?_ | refine blk_alloc ?_ _)); refine blk_put (cs := #[.int .u32 0, .int .u32 0, .slice none 0 0]) ?_ 0 _ rfl; (with_reducible repeat (first | refine blk_drewN ?_ _ | refine blk_drew ?_ | refine blk_alloc ?_ _)); exact BK202.out) hb); have n4_ := Aside0.mk (below_step (by repeat (first | (with_reducible first | exact HB.out | apply below_alloc | apply pw_below_drewN | apply below_drew1 | refine below_set ?_ GE202.out) | exact HB.out)) hb); clear HO195; clear HO200; clear BK202; clear HB; have HO195 := n0_; have HO200 := n1_; have HO205 := n2_; have BK202 := n3_; have HB := n4_; clear n0_ n1_ n2_ n3_ n4_; (try clear hb); (try clear hb2); (try clear hk); (try clear hi); (try clear ho0)))
    (try simp only [Act.put, List.setIfInBounds_toArray, List.set_cons_zero, List.set_cons_succ])
    go_cut [39] (fun v39 wc => ∃ (kq : Nat) (x39_10 : Bool), v39 = .bool x39_10 ∧ Aside0 (patchbaykeep3_SackHoles.j0 kq a0 a3 t203 x39_10 t196 t197 t198 = some r) ∧ Aside0 (kq ≤ k) ∧ Aside0 (Kd.R k31 31 wc w.heap.size (fun _ => True) v204 t203) ∧ Aside0 (Kd.V k31 31 wc w.heap.size (fun k_ => some k_ ≠ (v204 : Value).ownBlock ∧ k_ ≠ gb202) (.slice Ao18 t198.length co18) t198) ∧ Aside0 (wc.heap[gb202]? = some (.cells #[.int .u32 t196, .int .u32 t197, (.slice Ao18 t198.length co18)] 34 (0, 0))) ∧ Aside0 (Below w.heap.size w wc))
    case first =>
      have H := HC11.out
      clear HC11
      by_cases c20 : t201 = 0
      · rw [if_pos c20] at H
        have c20b0 : (t201 == 0) = true := beq_iff_eq.mpr c20
        have c20b1 : (t201 != 0) = false := bne_eq_false_iff_eq.mpr c20
        clear c20
        (first | rw [c20b0] | (simp only [i64_w, i32_w]; rw [c20b0]) | skip)
        have H' := Aside0.mk H
        clear H
        go_wp2
        go_meet
        case rel => exact ⟨_, ((t206 != 0)), (by first | rfl | (simp; done) | (simp [*]; done)), H', ⟨by first | omega | exact Nat.le_refl _⟩, ⟨by (with_reducible repeat (first | apply Kd.R_alloc | apply Kd.R_drewN | apply Kd.R_drew)); exact Kd.R_mono HO205.out (fun _ hk => trivial)⟩, ⟨by (with_reducible repeat (first | apply Kd.V_alloc | apply Kd.V_drewN | apply Kd.V_drew)); exact Kd.V_mono HO200.out (fun _ hk => ⟨hk.2, hk.1.2⟩)⟩, ⟨by (with_reducible repeat (first | refine blk_drewN ?_ _ | refine blk_drew ?_ | refine blk_alloc ?_ _)); exact BK202.out⟩, ⟨by repeat (first | (with_reducible first | exact HB.out | apply below_alloc | apply pw_below_drewN | apply below_drew1 | refine below_set ?_ GE202.out) | exact HB.out)⟩⟩
      · rw [if_neg c20] at H
        have c20b0 : (t201 == 0) = false := beq_eq_false_iff_ne.mpr c20
        have c20b1 : (t201 != 0) = true := bne_iff_ne.mpr c20
        (first | rw [c20b0] | (simp only [i64_w, i32_w]; rw [c20b0]) | skip)
        have H' := Aside0.mk H
        clear H
        go_wp2
        go_meet
        case rel => exact ⟨_, (true), (by first | rfl | (simp; done) | (simp [*]; done)), H', ⟨by first | omega | exact Nat.le_refl _⟩, ⟨by (with_reducible repeat (first | apply Kd.R_alloc | apply Kd.R_drewN | apply Kd.R_drew)); exact Kd.R_mono HO205.out (fun _ hk => trivial)⟩, ⟨by (with_reducible repeat (first | apply Kd.V_alloc | apply Kd.V_drewN | apply Kd.V_drew)); exact Kd.V_mono HO200.out (fun _ hk => ⟨hk.2, hk.1.2⟩)⟩, ⟨by (with_reducible repeat (first | refine blk_drewN ?_ _ | refine blk_drew ?_ | refine blk_alloc ?_ _)); exact BK202.out⟩, ⟨by repeat (first | (with_reducible first | exact HB.out | apply below_alloc | apply pw_below_drewN | apply below_drew1 | refine below_set ?_ GE202.out) | exact HB.out)⟩⟩
    case rest =>
      clear HC11
      try clear c1
      try clear c2
      try clear p2
      try clear p3
      try clear c6
      try clear c13
      try clear c14
      try clear c15
      try clear c16
      try clear c20
      try clear c20b0
      try clear c20b1
      try clear hcz17_0
      try clear hcz17_1
      try clear hcz17_2
      try clear hfz17_0
      try clear hfz17_1
      try clear hfz17_2
      obtain ⟨kq, x39_10, rfl, HA, HJ10, HO_11, HO_203002, BK202, HB⟩ := hcut
      cases kq with
      | zero => exact absurd HA.out (by simp [patchbaykeep3_SackHoles.j0])
      | succ kj10 =>
        have H := HA.out
        clear HA
        simp only [patchbaykeep3_SackHoles.j0] at H
        by_cases c21 : x39_10 = true
        · subst c21
          have H1 : (some false) = some r := by rw [if_pos rfl] at H; exact H
          clear H
          have H := H1
          clear H1
          obtain rfl := Option.some.inj H
          go_wp2
          go_ret
          exact ⟨by first | rfl | (simp [errW_none, errW_some] <;> rfl) | (simp [*, errW_none, errW_some] <;> rfl), by repeat (first | (with_reducible first | exact HB.out | apply below_alloc | apply pw_below_drewN | apply below_drew1 | refine below_set ?_ GE202.out) | exact HB.out)⟩
        · replace c21 := Bool.eq_false_iff.mpr c21
          subst c21
          have H1 : (if (t198.length : Int) = 0 then (some ((t203.length : Int) == 0)) else (if 0 ≤ (wrap64 ((t198.length : Int) - 1)) then (if (wrap64 ((t198.length : Int) - 1)) < (t198.length : Int) then ((seq_Diff.f ((rd_T31 t198 (wrap64 ((t198.length : Int) - 1))).f1) a0).bind fun t208 => ((patchbaykeep3_rest.f a3 t208).bind fun t209 => ((seq_Add.f a0 t209).bind fun t210 => ((patchbaykeep3_has.f kj10 t203 t210).bind fun t211 => ((patchbaykeep3_has.f kj10 t198 t210).bind fun t212 => (some (t211 != t212))))))) else (none)) else (none))) = some r := by rw [if_neg (show ¬ (false = true) by decide)] at H; exact H
          clear H
          have H := H1
          clear H1
          by_cases c22 : (t198.length : Int) = 0
          · rw [if_pos c22] at H
            have c22b0 : ((t198.length : Int) == 0) = true := beq_iff_eq.mpr c22
            have c22b1 : ((t198.length : Int) != 0) = false := bne_eq_false_iff_eq.mpr c22
            clear c22
            obtain rfl := Option.some.inj H
            have hcz23_0 : wc.cell? ⟨gb202, 0, none⟩ = some (.int .u32 t196) := (blk_cell BK202.out 0).trans rfl
            have hcz23_1 : wc.cell? ⟨gb202, 1, none⟩ = some (.int .u32 t197) := (blk_cell BK202.out 1).trans rfl
            have hcz23_2 : wc.cell? ⟨gb202, 2, none⟩ = some (.slice Ao18 t198.length co18) := (blk_cell BK202.out 2).trans rfl
            have hfz23_0 := blk_frozen BK202.out 0
            have hfz23_1 := blk_frozen BK202.out 1
            have hfz23_2 := blk_frozen BK202.out 2
            obtain ⟨Ao24, co24, eo24⟩ := Kd.R_slice HO_11.out
            subst eo24
            go_wp2
            go_ret
            exact ⟨by first | rfl | (simp [errW_none, errW_some] <;> rfl) | (simp [*, errW_none, errW_some] <;> rfl), by repeat (first | (with_reducible first | exact HB.out | apply below_alloc | apply pw_below_drewN | apply below_drew1 | refine below_set ?_ GE202.out) | exact HB.out)⟩
          · rw [if_neg c22] at H
            have c22b0 : ((t198.length : Int) == 0) = false := beq_eq_false_iff_ne.mpr c22
            have c22b1 : ((t198.length : Int) != 0) = true := bne_iff_ne.mpr c22
            have c22b2 : ¬ (t198 = []) := fun h_ => c22 (by rw [h_]; rfl)
            obtain ⟨ji25, hji25⟩ : ∃ j_ : Int, (wrap64 ((t198.length : Int) - 1)) = j_ := ⟨_, rfl⟩
            replace H : (if 0 ≤ (ji25) then (if (ji25) < (t198.length : Int) then ((seq_Diff.f ((rd_T31 t198 (ji25)).f1) a0).bind fun t208 => ((patchbaykeep3_rest.f a3 t208).bind fun t209 => ((seq_Add.f a0 t209).bind fun t210 => ((patchbaykeep3_has.f kj10 t203 t210).bind fun t211 => ((patchbaykeep3_has.f kj10 t198 t210).bind fun t212 => (some (t211 != t212))))))) else (none)) else (none)) = some r := by first | (rw [hji25] at H; exact H) | (simp only [hji25] at H ⊢; exact H)
            have hji25w : (IntKind.i64.wrap ((t198.length : Int) - 1)) = ji25 := (i64_w _).trans hji25
            by_cases c26 : 0 ≤ (ji25)
            · rw [if_pos c26] at H
              have c26b0 : decide (0 ≤ (ji25)) = true := decide_eq_true c26
              clear c26
              by_cases c27 : (ji25) < (t198.length : Int)
              · rw [if_pos c27] at H
                have c27b0 : decide ((ji25) < (t198.length : Int)) = true := decide_eq_true c27
                clear c27
                replace H := Option.bind_eq_some_iff.mp H
                obtain ⟨t208, A280, H⟩ := H
                replace H : ((patchbaykeep3_rest.f a3 t208).bind fun t209 => ((seq_Add.f a0 t209).bind fun t210 => ((patchbaykeep3_has.f kj10 t203 t210).bind fun t211 => ((patchbaykeep3_has.f kj10 t198 t210).bind fun t212 => (some (t211 != t212)))))) = some r := H
                have A28 := Aside0.mk A280
                clear A280
                replace H := Option.bind_eq_some_iff.mp H
                obtain ⟨t209, A290, H⟩ := H
                replace H : ((seq_Add.f a0 t209).bind fun t210 => ((patchbaykeep3_has.f kj10 t203 t210).bind fun t211 => ((patchbaykeep3_has.f kj10 t198 t210).bind fun t212 => (some (t211 != t212))))) = some r := H
                have A29 := Aside0.mk A290
                clear A290
                replace H := Option.bind_eq_some_iff.mp H
                obtain ⟨t210, A300, H⟩ := H
                replace H : ((patchbaykeep3_has.f kj10 t203 t210).bind fun t211 => ((patchbaykeep3_has.f kj10 t198 t210).bind fun t212 => (some (t211 != t212)))) = some r := H
                have A30 := Aside0.mk A300
                clear A300
                replace H := Option.bind_eq_some_iff.mp H
                obtain ⟨t211, A310, H⟩ := H
                replace H : ((patchbaykeep3_has.f kj10 t198 t210).bind fun t212 => (some (t211 != t212))) = some r := H
                have A31 := Aside0.mk A310
                clear A310
                replace H := Option.bind_eq_some_iff.mp H
                obtain ⟨t212, A320, H⟩ := H
                replace H : (some (t211 != t212)) = some r := H
                have A32 := Aside0.mk A320
                clear A320
                obtain rfl := Option.some.inj H
                have hcz33_0 : wc.cell? ⟨gb202, 0, none⟩ = some (.int .u32 t196) := (blk_cell BK202.out 0).trans rfl
                have hcz33_1 : wc.cell? ⟨gb202, 1, none⟩ = some (.int .u32 t197) := (blk_cell BK202.out 1).trans rfl
                have hcz33_2 : wc.cell? ⟨gb202, 2, none⟩ = some (.slice Ao18 t198.length co18) := (blk_cell BK202.out 2).trans rfl
                have hfz33_0 := blk_frozen BK202.out 0
                have hfz33_1 := blk_frozen BK202.out 1
                have hfz33_2 := blk_frozen BK202.out 2
                have p207 : 0 ≤ ((ji25) : Int) := of_decide_eq_true (by first | (with_reducible assumption) | assumption)
                have q207 : (ji25) < (t198.length : Int) := of_decide_eq_true (by first | (with_reducible assumption) | assumption)
                obtain ⟨ad207, e207, hx207_0, hx207_1⟩ := at_T31 (Kd.V_reads' HO_203002.out).2.2 (ji25) p207 q207
                cases e207
                replace p207 := eq_true p207
                replace q207 := eq_true q207
                try go_wp2_with (first | ((with_reducible refine gate_callee (f := 21) rfl ?_); refine goesL_ (some 57) rfl rfl Try.func21 (by kernel_rfl) rfl #[.int .u32 ((rd_T31 t198 (ji25)).f1), .int .u32 a0] rfl (by (try simp only [List.map_toArray, List.map_cons, List.map_nil]); first | done | (simp only [hji25]; rfl) | rfl | (simp only [List.length_drop, List.length_take]; rfl)) ?_; (with_reducible refine (seq_Diff.calls ((rd_T31 t198 (ji25)).f1) a0 t208 _ A28.out).mono ?_); rintro e w' ⟨rfl, ⟨nd, rfl⟩⟩; refine ⟨_, rfl, ?_⟩) | ((with_reducible refine gate_callee (f := 18) rfl ?_); refine goesL_ (some 61) rfl rfl Try.func18 (by kernel_rfl) rfl #[.int .i64 a3, .int .i64 t208] rfl (by (try simp only [List.map_toArray, List.map_cons, List.map_nil]); first | done | rfl | (simp only [List.length_drop, List.length_take]; rfl)) ?_; (with_reducible refine (patchbaykeep3_rest.calls a3 t208 t209 _ A29.out).mono ?_); rintro e w' ⟨rfl, ⟨nd, rfl⟩⟩; refine ⟨_, rfl, ?_⟩) | ((with_reducible refine gate_callee (f := 15) rfl ?_); refine goesL_ (some 62) rfl rfl Try.func15 (by kernel_rfl) rfl #[.int .u32 a0, .int .i64 t209] rfl (by (try simp only [List.map_toArray, List.map_cons, List.map_nil]); first | done | rfl | (simp only [List.length_drop, List.length_take]; rfl)) ?_; (with_reducible refine (seq_Add.calls a0 t209 t210 _ A30.out).mono ?_); rintro e w' ⟨rfl, ⟨nd, rfl⟩⟩; refine ⟨_, rfl, ?_⟩))
                (try (rw [drewN_self wc]; generalize hq_ : World.drewN wc _ = wc; have n0_ : Aside0 (Kd.R k31 31 wc w.heap.size (fun _ => True) v204 t203) := ⟨by rw [← hq_]; exact (by (with_reducible repeat (first | apply Kd.R_alloc | apply Kd.R_drewN | apply Kd.R_drew)); exact HO_11.out)⟩; have n1_ : Aside0 (Kd.V k31 31 wc w.heap.size (fun k_ => some k_ ≠ (v204 : Value).ownBlock ∧ k_ ≠ gb202) (.slice (some ad207) t198.length co18) t198) := ⟨by rw [← hq_]; exact (by (with_reducible repeat (first | apply Kd.V_alloc | apply Kd.V_drewN | apply Kd.V_drew)); exact HO_203002.out)⟩; have n2_ : Aside0 (wc.heap[gb202]? = some (.cells #[.int .u32 t196, .int .u32 t197, .slice (some ad207) t198.length co18] 34 (0, 0))) := ⟨by rw [← hq_]; exact (by (with_reducible repeat (first | refine blk_drewN ?_ _ | refine blk_drew ?_ | refine blk_alloc ?_ _)); exact BK202.out)⟩; have n3_ : Aside0 (Below w.heap.size w wc) := ⟨by rw [← hq_]; exact (by repeat (first | (with_reducible first | exact HB.out | apply below_alloc | apply pw_below_drewN | apply below_drew1 | refine below_set ?_ GE202.out) | exact HB.out))⟩; clear HO_11 HO_203002 BK202 HB hq_; have HO_11 := n0_; have HO_203002 := n1_; have BK202 := n2_; have HB := n3_; clear n0_ n1_ n2_ n3_))
                have n0_ := Aside0.mk (Kd.R_drew HO_11.out)
                have n1_ := Aside0.mk (Kd.V_drew HO_203002.out)
                have n2_ := Aside0.mk (blk_drew BK202.out)
                have n3_ := Aside0.mk (below_drew1 HB.out)
                clear HO_11
                clear HO_203002
                clear BK202
                clear HB
                have HO_11 := n0_
                have HO_203002 := n1_
                have BK202 := n2_
                have HB := n3_
                clear n0_ n1_ n2_ n3_
                obtain ⟨Ao35, co35, eo35⟩ := Kd.R_slice HO_11.out
                (first | subst eo35 | (injection eo35 with f1_ f2_ f3_; have f4_ := f1_.symm; have f5_ := f3_.symm; clear f1_ f2_ f3_; subst f4_; subst f5_))
                refine start_ (n := 9) (S := fun w' => w'.cell? ⟨gb202, 0, none⟩ = some (.int .u32 t196) ∧ w'.cell? ⟨gb202, 1, none⟩ = some (.int .u32 t197) ∧ w'.cell? ⟨gb202, 2, none⟩ = some (.slice (some ad207) t198.length co18)) (ds := []) #[false, false, false, false, false, false, false, false, false] (by kernel_rfl) rfl rfl ⟨(blk_cell BK202.out 0).trans rfl, (blk_cell BK202.out 1).trans rfl, (blk_cell BK202.out 2).trans rfl⟩ (fun hHeld => ?_); refine with_tabW patchbaykeep3_SackHoles.tab11 patchbaykeep3_SackHoles.bits11 (fun HT_ HW_ => ?_)
                generalize wc.drew = w34 at HO_11 HO_203002 BK202 HB hHeld ⊢
                refine pure_ (i := 0) (N := some 63) (v := ?_) (a' := ?_) #[true, false, false, false, false, false, false, false, false] rfl rfl (any_of HT_.out (by kernel_rfl)) (fun _ _ _ h => h) (Or.inl ⟨by rfl, ?_⟩) ?_ ?_
                rotate_left
                · intro w'
                  go_simp
                  with_reducible rfl
                rotate_left
                · simp only [Act.put, List.setIfInBounds_toArray, List.set_cons_zero, List.set_cons_succ, i64_w, i32_w]
                  rfl
                refine pure_ (i := 1) (N := some 64) (v := ?_) (a' := ?_) #[true, true, false, false, false, false, false, false, false] rfl rfl (any_of HT_.out (by kernel_rfl)) (fun _ _ _ h => h) (Or.inl ⟨by rfl, ?_⟩) ?_ ?_
                rotate_left
                · intro w'
                  go_simp
                  with_reducible rfl
                rotate_left
                · simp only [Act.put, List.setIfInBounds_toArray, List.set_cons_zero, List.set_cons_succ, i64_w, i32_w]
                  rfl
                refine pure_ (i := 3) (N := some 66) (v := ?_) (a' := ?_) #[true, true, false, true, false, false, false, false, false] rfl rfl (any_of HT_.out (by kernel_rfl)) (fun _ _ _ h => h) (Or.inl ⟨by rfl, ?_⟩) ?_ ?_
                rotate_left
                · intro w'
                  go_simp
                  with_reducible rfl
                rotate_left
                · simp only [Act.put, List.setIfInBounds_toArray, List.set_cons_zero, List.set_cons_succ, i64_w, i32_w]
                  rfl
                refine pure_ (i := 5) (N := some 68) (v := ?_) (a' := ?_) #[true, true, false, true, false, true, false, false, false] rfl rfl (any_of HT_.out (by kernel_rfl)) (fun _ _ _ h => h) (Or.inl ⟨by rfl, ?_⟩) ?_ ?_
                rotate_left
                · intro w'
                  go_simp
                  with_reducible rfl
                rotate_left
                · simp only [Act.put, List.setIfInBounds_toArray, List.set_cons_zero, List.set_cons_succ, i64_w, i32_w]
                  rfl
                refine take_ (i := 4) (N := some 67) (v := ?_) (a' := ?_) #[true, true, false, true, true, true, false, false, false] rfl rfl (take_ofW HT_.out HW_.out (by kernel_rfl)) (fun _ _ _ h => h) (Or.inl ⟨by rfl, ?_⟩) hHeld ?_ ?_
                rotate_left
                · rintro w' ⟨s0, s1, s2⟩
                  go_simp
                  with_reducible rfl
                rotate_left
                · simp only [Act.put, List.setIfInBounds_toArray, List.set_cons_zero, List.set_cons_succ, i64_w, i32_w]
                  rfl
                refine one_ (i := 2) (N := some 65) #[true, true, true, true, true, true, false, false, false] rfl rfl (one_of HT_.out (by kernel_rfl)) (by decide) (fun K hK => ?_)
                refine goes_ Try.func19 (by kernel_rfl) rfl #[.slice Ao35 t203.length co35, .int .u32 t210] (by rfl) rfl rfl (by (try simp only [List.map_toArray, List.map_cons, List.map_nil]); first | done | rfl | (simp only [List.length_drop, List.length_take]; rfl)) ?_
                with_reducible refine (patchbaykeep3_has.calls kj10 _ _ t203 t210 t211 _ ?side1 ?side2 A31.out).mono ?_
                (case side1 => repeat (first | exact (Kd.R_reads' HO_11.out).2.2 | (with_reducible refine Kd.C_alloc ?_ _) | (with_reducible refine Kd.C_drewN ?_ _) | (with_reducible refine Kd.C_drew ?_)))
                (case side2 => exact (Kd.R_reads' HO_11.out).2.1)
                rintro e w36 ⟨rfl, hb⟩
                refine ⟨_, rfl, ?_⟩
                have n0_ := Aside0.mk (Kd.R_below (by (with_reducible repeat (first | apply Kd.R_alloc | apply Kd.R_drewN | apply Kd.R_drew)); exact HO_11.out) hb)
                have n1_ := Aside0.mk (Kd.V_below (by (with_reducible repeat (first | apply Kd.V_alloc | apply Kd.V_drewN | apply Kd.V_drew)); exact HO_203002.out) hb)
                have n2_ := Aside0.mk (blk_below (g := gb202) (o := .cells #[.int .u32 t196, .int .u32 t197, .slice (some ad207) t198.length co18] 34 (0, 0)) (by (with_reducible repeat (first | refine blk_drewN ?_ _ | refine blk_drew ?_ | refine blk_alloc ?_ _)); exact BK202.out) hb)
                have n3_ := Aside0.mk (below_step (by repeat (first | (with_reducible first | exact HB.out | apply below_alloc | apply pw_below_drewN | apply below_drew1 | refine below_set ?_ GE202.out) | exact HB.out)) hb)
                clear HO_11
                clear HO_203002
                clear BK202
                clear HB
                have HO_11 := n0_
                have HO_203002 := n1_
                have BK202 := n2_
                have HB := n3_
                clear n0_ n1_ n2_ n3_
                (try clear hb)
                (try clear hb2)
                (try clear hk)
                (try clear hi)
                refine hK.out _ _ ⟨(blk_cell BK202.out 0).trans rfl, (blk_cell BK202.out 1).trans rfl, (blk_cell BK202.out 2).trans rfl⟩ (fun hHeld => ?_)
                clear hK K
                refine norm_ (a' := ?_) ?_ ?_
                rotate_left
                · show Act.put _ (some 65) _ = _
                  simp only [Act.put, List.setIfInBounds_toArray, List.set_cons_zero, List.set_cons_succ, i64_w, i32_w]
                  rfl
                refine one_ (i := 6) (N := some 69) #[true, true, true, true, true, true, true, false, false] rfl rfl (one_of HT_.out (by kernel_rfl)) (by decide) (fun K hK => ?_)
                refine goes_ Try.func19 (by kernel_rfl) rfl #[.slice (some ad207) t198.length co18, .int .u32 t210] (by rfl) rfl rfl (by (try simp only [List.map_toArray, List.map_cons, List.map_nil]); first | done | rfl | (simp only [List.length_drop, List.length_take]; rfl)) ?_
                with_reducible refine (patchbaykeep3_has.calls kj10 _ _ t198 t210 t212 _ ?side1 ?side2 A32.out).mono ?_
                (case side1 => repeat (first | exact (Kd.V_reads' HO_203002.out).2.2 | (with_reducible refine Kd.C_alloc ?_ _) | (with_reducible refine Kd.C_drewN ?_ _) | (with_reducible refine Kd.C_drew ?_)))
                (case side2 => exact (Kd.V_reads' HO_203002.out).2.1)
                rintro e w37 ⟨rfl, hb⟩
                refine ⟨_, rfl, ?_⟩
                have n0_ := Aside0.mk (Kd.R_below (by (with_reducible repeat (first | apply Kd.R_alloc | apply Kd.R_drewN | apply Kd.R_drew)); exact HO_11.out) hb)
                have n1_ := Aside0.mk (Kd.V_below (by (with_reducible repeat (first | apply Kd.V_alloc | apply Kd.V_drewN | apply Kd.V_drew)); exact HO_203002.out) hb)
                have n2_ := Aside0.mk (blk_below (g := gb202) (o := .cells #[.int .u32 t196, .int .u32 t197, .slice (some ad207) t198.length co18] 34 (0, 0)) (by (with_reducible repeat (first | refine blk_drewN ?_ _ | refine blk_drew ?_ | refine blk_alloc ?_ _)); exact BK202.out) hb)
                have n3_ := Aside0.mk (below_step (by repeat (first | (with_reducible first | exact HB.out | apply below_alloc | apply pw_below_drewN | apply below_drew1 | refine below_set ?_ GE202.out) | exact HB.out)) hb)
                clear HO_11
                clear HO_203002
                clear BK202
                clear HB
                have HO_11 := n0_
                have HO_203002 := n1_
                have BK202 := n2_
                have HB := n3_
                clear n0_ n1_ n2_ n3_
                (try clear hb)
                (try clear hb2)
                (try clear hk)
                (try clear hi)
                refine hK.out _ _ ⟨(blk_cell BK202.out 0).trans rfl, (blk_cell BK202.out 1).trans rfl, (blk_cell BK202.out 2).trans rfl⟩ (fun hHeld => ?_)
                clear hK K
                refine norm_ (a' := ?_) ?_ ?_
                rotate_left
                · show Act.put _ (some 69) _ = _
                  simp only [Act.put, List.setIfInBounds_toArray, List.set_cons_zero, List.set_cons_succ, i64_w, i32_w]
                  rfl
                refine pure_ (i := 7) (N := some 70) (v := ?_) (a' := ?_) #[true, true, true, true, true, true, true, true, false] rfl rfl (any_of HT_.out (by kernel_rfl)) (fun _ _ _ h => h) (Or.inl ⟨by rfl, ?_⟩) ?_ ?_
                rotate_left
                · intro w'
                  go_simp
                  with_reducible rfl
                rotate_left
                · simp only [Act.put, List.setIfInBounds_toArray, List.set_cons_zero, List.set_cons_succ, i64_w, i32_w]
                  rfl
                refine pure_ (i := 8) (N := some 8) (v := ?_) (a' := ?_) #[true, true, true, true, true, true, true, true, true] rfl rfl (any_of HT_.out (by kernel_rfl)) (fun _ _ _ h => h) (Or.inl ⟨by rfl, ?_⟩) ?_ ?_
                rotate_left
                · intro w'
                  go_simp
                  with_reducible rfl
                rotate_left
                · simp only [Act.put, List.setIfInBounds_toArray, List.set_cons_zero, List.set_cons_succ, i64_w, i32_w]
                  rfl
                refine done_ (done_of HT_.out (by kernel_rfl)) ?_
                try go_wp2
                go_ret
                exact ⟨by first | rfl | (simp [errW_none, errW_some] <;> rfl) | (simp only [← hji25]; first | rfl | (simp [errW_none, errW_some] <;> rfl)) | (simp [*, errW_none, errW_some] <;> rfl), by repeat (first | (with_reducible first | exact HB.out | apply below_alloc | apply pw_below_drewN | apply below_drew1 | refine below_set ?_ GE202.out) | exact HB.out)⟩
              · rw [if_neg c27] at H
                exact absurd H (by simp)
            · rw [if_neg c26] at H
              exact absurd H (by simp)
  · replace c6 := Bool.eq_false_iff.mpr c6
    subst c6
    have H1 : (some false) = some r := by rw [if_neg (show ¬ (false = true) by decide)] at H; exact H
    clear H
    have H := H1
    clear H1
    obtain rfl := Option.some.inj H
    go_enter Try.func6, Try.ntmps6
    go_wp2_with (first | ((with_reducible refine gate_callee (f := 13) rfl ?_); refine goesL_ (some 15) rfl rfl Try.func13 (by kernel_rfl) rfl #[] rfl (by (try simp only [List.map_toArray, List.map_cons, List.map_nil]); first | done | rfl | (simp only [List.length_drop, List.length_take]; rfl)) ?_; (with_reducible refine (patchbaykeep3_sackFact.calls k  false _ A5.out).mono ?_); rintro e w38 ⟨rfl, hb⟩; refine ⟨_, rfl, ?_⟩; have n0_ := Aside0.mk (below_step (by repeat (first | (with_reducible first | exact HB.out | apply below_alloc | apply pw_below_drewN | apply below_drew1) | exact HB.out)) hb); clear HB; have HB := n0_; clear n0_; (try clear hb); (try clear hb2); (try clear hk); (try clear hi)))
    go_ret
    exact ⟨by first | rfl | (simp [errW_none, errW_some] <;> rfl) | (simp [*, errW_none, errW_some] <;> rfl), by repeat (first | (with_reducible first | exact HB.out | apply below_alloc | apply pw_below_drewN | apply below_drew1) | exact HB.out)⟩

/-- THE ONE PURE STATEMENT of patchbaykeep3_SackHoles: yours. -/
def patchbaykeep3_SackHoles.Pure : Prop := ∀ (a0 : Int) (l1 : List Int) (l2 : List Int) (a3 : Int), (Lit.int .u32 a0).wf = true → l1.length ≤ maxLen → l1.length * 8 ≤ 140737488351232 → (∀ x ∈ l1, (Lit.int .i64 x).wf = true) → l2.length ≤ maxLen → l2.length * 8 ≤ 140737488351232 → (∀ x ∈ l2, (Lit.int .i64 x).wf = true) → (Lit.int .i64 a3).wf = true → ∃ k, patchbaykeep3_SackHoles.f k a0 l1 l2 a3 = some true
theorem patchbaykeep3_SackHoles.walk (P : patchbaykeep3_SackHoles.Pure) (a0 : Int) (a1 : Option Addr) (len1 cap1 : Nat) (z1 : List Int) (a2 : Option Addr) (len2 cap2 : Nat) (z2 : List Int) (a3 : Int) (w : World) (w0 : (Lit.int .u32 a0).wf = true) (w1 : (a1 = none ∧ len1 = 0 ∧ cap1 = 0 ∧ z1 = []) ∨ ∃ x, a1 = some x ∧ len1 ≤ cap1 ∧ cap1 ≤ maxLen ∧ z1.length = cap1 ∧ (∀ i, i < z1.length → w.cell? (x.add i) = some (.int .i64 (z1.getD i 0))) ∧ ∀ n ∈ z1, (Lit.int .i64 n).wf = true) (y1 : len1 * 8 ≤ 140737488351232) (w2 : (a2 = none ∧ len2 = 0 ∧ cap2 = 0 ∧ z2 = []) ∨ ∃ x, a2 = some x ∧ len2 ≤ cap2 ∧ cap2 ≤ maxLen ∧ z2.length = cap2 ∧ (∀ i, i < z2.length → w.cell? (x.add i) = some (.int .i64 (z2.getD i 0))) ∧ ∀ n ∈ z2, (Lit.int .i64 n).wf = true) (y2 : len2 * 8 ≤ 140737488351232) (w3 : (Lit.int .i64 a3).wf = true) :
    Calls Try.prog 6 #[.int .u32 a0, .slice a1 len1 cap1, .slice a2 len2 cap2, .int .i64 a3] w fun e w' => e = .returned (.bool true) ∧ Below w.heap.size w w' := by
  obtain ⟨l1, rfl, hr1, hm1, hw1, hc1⟩ := ReadsInt.ofRowC w1
  obtain ⟨l2, rfl, hr2, hm2, hw2, hc2⟩ := ReadsInt.ofRowC w2
  obtain ⟨k, h⟩ := P a0 l1 l2 a3 w0 hm1 y1 hw1 hm2 y2 hw2 w3
  refine (patchbaykeep3_SackHoles.calls k a0 _ _ l1 _ _ l2 a3 true w (Kd.C_of_reads (d := (0 : Int)) (h1 := fun _ => rfl) hr1) hc1 (Kd.C_of_reads (d := (0 : Int)) (h1 := fun _ => rfl) hr2) hc2 h).mono ?_
  rintro e w' ⟨rfl, hd⟩
  exact ⟨rfl, hd⟩

end Go.Proofs.Ytlcccmaolbjcfaa.PSackMoves
