/- The walk of sack.Lost: the first of the holes, as many as the held bytes above them ask for. -/
import Derived.Test.YtlcccmaolbjcfaaHoles
import Derived.Test.YtlcccmaolbjcfaaMine
namespace Go.Proofs.Ytlcccmaolbjcfaa.PSackMoves
open Go.RowKit Go.Proofs.YtlcccmaolbjcfaaW.PrintWords Go.Proofs.YtlcccmaolbjcfaaW.PrintLast Go.Proofs.YtlcccmaolbjcfaaW.PrintMore
attribute [local go_sem] max2_int min2_int max_two min_two max_three min_three max_four min_four   -- for this text's walks alone
set_option linter.unusedVariables false
set_option linter.unusedSimpArgs false

/-- How many of the first holes are lost: the loop from the last held range down. -/
def lostMany (h : List S31) (least : Int) : Nat → Int → Nat
  | 0, _ => 0
  | i + 1, above => if above + ((rd_T31 h i).f1 - (rd_T31 h i).f0) % 4294967296 ≥ least then i + 1 else lostMany h least i (above + ((rd_T31 h i).f1 - (rd_T31 h i).f0) % 4294967296)

theorem lostMany_le (h : List S31) (least : Int) : ∀ (i : Nat) (above : Int), lostMany h least i above ≤ i := by
  intro i
  induction i with
  | zero => intro above; exact Nat.le_refl _
  | succ i ih => intro above; unfold lostMany; split; exact Nat.le_refl _; exact Nat.le_trans (ih _) (Nat.le_succ _)

def LostPost (base : Nat) (w : World) (r : List S31) (e : Ending) (w' : World) : Prop := ∃ v : Value, e = .returned (.tuple #[v, .int .i64 0]) ∧ Kd.R k31 31 w' base (fun _ => True) v r ∧ Below base w w'

set_option maxHeartbeats 8000000 in
set_option maxRecDepth 100000 in
theorem lost_calls (k : Nat) (una next least : Int) (A : Option Addr) (c : Nat) (h holes : List S31) (w : World) (hC : Kd.C k31 w A h.length h) (hc : h.length ≤ c) (hH : sack_Holes.f k una next h = some (holes, 0)) (hl : holes.length = h.length) (hn : h.length ≤ 1000) (h1 : 1 ≤ least) (h2 : least ≤ 1000) :
    Calls Try.prog 26 #[.agg #[.int .u32 una, .int .u32 next, .slice A h.length c], .int .i64 least] w (LostPost w.heap.size w (holes.take (lostMany h least h.length 0))) := by
  have hu34 := Try.underlying34
  have hu31 := Try.underlying31
  have HR := Aside0.mk hC
  have HC := Aside0.mk hc
  have A3 := Aside0.mk hH
  have HB := Aside0.mk (Below.refl w.heap.size w)
  have HL := Aside0.mk hl
  have cl : decide (least < 1) = false := decide_eq_false (by omega)
  clear hC hc hH hl
  go_enter Try.func26, Try.ntmps26
  go_wp2_with (first | ((with_reducible refine gate_dst (N := 2) rfl ?_); (try (refine gate_guard (by rfl) ?_; dsimp only)); refine box_event ?hg (N := 2) ?hd (cs := #[.int .u32 una, .int .u32 next, .slice A h.length c]) (t := 34) ?hr ?_; (case hd => rfl); (case hg => rfl); (case hr => first | (go_simp; done) | (go_simp; rfl)); intro gb hg w3 hbox hb; have m0_ := Aside0.mk hbox; have m1_ := Aside0.mk ((by rw [hg]; exact (below_size (by repeat (first | (with_reducible first | exact HB.out | apply below_alloc | apply pw_below_drewN | apply below_drew1) | exact HB.out)))) : w.heap.size ≤ gb); have n0_ := Aside0.mk (below_step (by repeat (first | (with_reducible first | exact HB.out | apply below_alloc | apply pw_below_drewN | apply below_drew1) | exact HB.out)) hb); clear HB; have HB := n0_; clear n0_; have BK := m0_; have GE := m1_; clear m0_ m1_ hb hbox hg; have hcz3_0 : w3.cell? ⟨gb, 0, none⟩ = some (.int .u32 una) := (blk_cell BK.out 0).trans rfl; have hfz3_0 := blk_frozen BK.out 0; have hcz3_1 : w3.cell? ⟨gb, 1, none⟩ = some (.int .u32 next) := (blk_cell BK.out 1).trans rfl; have hfz3_1 := blk_frozen BK.out 1; have hcz3_2 : w3.cell? ⟨gb, 2, none⟩ = some (.slice A h.length c) := (blk_cell BK.out 2).trans rfl; have hfz3_2 := blk_frozen BK.out 2) | ((with_reducible refine gate_callee (f := 22) rfl ?_); refine goesL_ (some 13) rfl rfl Try.func22 (by kernel_rfl) rfl #[.agg #[.int .u32 una, .int .u32 next, .slice A h.length c]] rfl (by (try simp only [List.map_toArray, List.map_cons, List.map_nil]); first | done | rfl | (simp only [List.length_drop, List.length_take]; rfl)) ?_; (with_reducible refine (sack_Holes.calls k una next A c h holes 0 _ ?side1 ?side2 A3.out).mono ?_); (case side1 => exact (Kd.C_below HR.out (by repeat (first | (with_reducible first | exact HB.out | apply below_alloc | apply pw_below_drewN | apply below_drew1 | refine below_set ?_ GE.out) | exact HB.out)))); (case side2 => exact HC.out); rintro e w5 ⟨v5, rfl, ho0, hb⟩; refine ⟨_, rfl, ?_⟩; have n0_ := Aside0.mk (below_step (by repeat (first | (with_reducible first | exact HB.out | apply below_alloc | apply pw_below_drewN | apply below_drew1 | refine below_set ?_ GE.out) | exact HB.out)) hb); have n1_ := Aside0.mk (blk_below (g := gb) (o := .cells #[.int .u32 una, .int .u32 next, .slice A h.length c] 34 (0, 0)) (by (with_reducible repeat (first | refine blk_drewN ?_ _ | refine blk_drew ?_ | refine blk_alloc ?_ _)); exact BK.out) hb); clear HB; clear BK; have HB := n0_; have BK := n1_; clear n0_ n1_; obtain ⟨Ao5, co5, eo5⟩ := Kd.R_slice ho0; subst eo5; have HO := Aside0.mk (Kd.R_reads' ho0).2.2; have HO2 := Aside0.mk (Kd.R_reads' ho0).2.1; clear ho0; (try clear hb)))
  go_loopg [8, 9, 10] h.length (fun kq v8 v9 v10 w' => ∃ (above j : Int), v8 = .int .i64 above ∧ v9 = .int .i64 0 ∧ v10 = .int .i64 j ∧ Aside0 (j = (kq : Int) - 1 ∧ kq ≤ h.length ∧ 0 ≤ above ∧ above ≤ ((h.length : Int) - kq) * 4294967296 ∧ lostMany h least kq above = lostMany h least h.length 0) ∧ Aside0 (w'.heap[gb]? = some (.cells #[.int .u32 una, .int .u32 next, .slice A h.length c] 34 (0, 0))) ∧ Aside0 (Kd.C k31 w' Ao5 holes.length holes) ∧ Aside0 (Below w.heap.size w w'))
  case atStart => exact ⟨0, wrap64 ((holes.length : Int) - 1), rfl, rfl, rfl, ⟨by have := HL.out; rw [Mine.wrap64_in (by omega)]; omega, Nat.le_refl _, by omega, by omega, rfl⟩, ⟨by (with_reducible repeat (first | refine blk_drewN ?_ _ | refine blk_drew ?_ | refine blk_alloc ?_ _)); exact BK.out⟩, ⟨by repeat (first | exact HO.out | (with_reducible refine Kd.C_alloc ?_ _) | (with_reducible refine Kd.C_drewN ?_ _) | (with_reducible refine Kd.C_drew ?_))⟩, ⟨by repeat (first | (with_reducible first | exact HB.out | apply below_alloc | apply pw_below_drewN | apply below_drew1 | refine below_set ?_ GE.out) | exact HB.out)⟩⟩
  case round =>
    clear HO BK HB
    (try clear hcz3_0 hcz3_1 hcz3_2 hfz3_0 hfz3_1 hfz3_2)
    obtain ⟨above, j, rfl, rfl, rfl, HI, BK, HO, HB⟩ := hrel
    cases gk with
    | zero =>
      obtain rfl : j = -1 := by have := HI.out.1; omega
      have hm : Aside0 (lostMany h least h.length 0 = 0) := ⟨HI.out.2.2.2.2.symm⟩
      have HT : Aside0 (Kd.C k31 wr Ao5 (0) (holes.take (0))) := ⟨by have h_ := Kd.C_take (m := 0) HO.out (by have := HL.out; have := HI.out.2.1; omega); rw [List.length_take, Nat.min_eq_left (by have := HL.out; have := HI.out.2.1; omega)] at h_; exact h_⟩
      obtain ⟨i0, hi0, _, hsz0, _⟩ := info_parts info31
      have hcut := cut_to (P := Try.prog) 28 31 .i64 Try.underlying28 hi0 Ao5 holes.length co5 (0) (by omega) (by have := HL.out; have := HI.out.2.1; omega) HO2.out
      clear hi0 hsz0
      go_wp2_with (first | ((with_reducible refine gate_builtin (b := .append) (xs := #[.const (.slice none 0 0), .tmp 51]) rfl ?_); at_builtin; refine Kd.R_append_rows k31 (Rr := k31.K wr) (w0 := w) w.heap.size rfl (.const (.slice none 0 0)) (.tmp 51) 28 31 (.agg #[(.int .u32 0), (.int .u32 0)]) 8 rfl Try.underlying28 info31 rfl (by decide) (by omega) (.slice none 0 0) [] (holes.take 0) Ao5 0 co5 (fun _ => True) (fun _ => False) rfl rfl ?aO ?aR ?aM (fun _ hk => hk.elim) (fun _ _ => trivial) ?aB ?aS ?aL ?_; (case aO => exact Kd.R_nil _ _ _ _ _); (case aR => exact HT.out); (case aM => exact fun x cs hk => by (have h_ := k31_open hk; subst h_; exact k31_mkM _ _ _ x)); (case aB => exact HB.out); (case aS => exact HB.out.size); (case aL => (first | (simp; done) | (simp; omega))); intro v1 w1 ha hb2 _ _; have HV := Aside0.mk ha; have HB2 := Aside0.mk hb2; clear ha hb2))
      go_ret2
      exact ⟨v1, rfl, by rw [hm.out]; exact HV.out, HB2.out⟩
    | succ k1 =>
      obtain rfl : j = (k1 : Int) := by have := HI.out.1; omega
      have p1 : 0 ≤ (k1 : Int) := by omega
      have q1 : (k1 : Int) < (h.length : Int) := by have := HI.out.2.1; omega
      obtain ⟨ad, e1, hx0, hx1⟩ := at_T31 HR.out (k1 : Int) p1 q1
      cases e1
      rw [Int.toNat_natCast] at hx0 hx1
      replace hx0 := (HB.out.cell (World.block_lt_of_cell? w _ hx0)).trans hx0
      replace hx1 := (HB.out.cell (World.block_lt_of_cell? w _ hx1)).trans hx1
      have b0 : 0 ≤ above := HI.out.2.2.1
      have b1 : above ≤ 4294967296000 := by have h1 := HI.out.2.2.2.1; have h2 := HI.out.2.1; omega
      have hz_0 : wr.cell? ⟨gb, 0, none⟩ = some (.int .u32 una) := (blk_cell BK.out 0).trans rfl
      have hz_1 : wr.cell? ⟨gb, 1, none⟩ = some (.int .u32 next) := (blk_cell BK.out 1).trans rfl
      have hz_2 : wr.cell? ⟨gb, 2, none⟩ = some (.slice (some ad) h.length c) := (blk_cell BK.out 2).trans rfl
      have hK := HI.out.2.2.2.2
      have hq := HI.out.2.2.2.1
      have hr := HI.out.2.1
      by_cases cc : above + ((rd_T31 h (k1 : Int)).f1 - (rd_T31 h (k1 : Int)).f0) % 4294967296 ≥ least
      · have hm : Aside0 (lostMany h least h.length 0 = k1 + 1) := ⟨by rw [← hK, lostMany, if_pos cc]⟩
        have cb : decide (least ≤ above + ((rd_T31 h (k1 : Int)).f1 - (rd_T31 h (k1 : Int)).f0) % 4294967296) = true := decide_eq_true cc
        clear hK cc
        go_wp2
        go_quiet (fail)
        generalize hq_ : World.drewN wr _ = w7
        have HO7 : Aside0 (Kd.C k31 w7 Ao5 holes.length holes) := ⟨by rw [← hq_]; exact Kd.C_drewN HO.out _⟩
        have HB7 : Aside0 (Below w.heap.size w w7) := ⟨by rw [← hq_]; exact pw_below_drewN HB.out _⟩
        clear hq_
        have HT : Aside0 (Kd.C k31 w7 Ao5 ((k1 + 1)) (holes.take ((k1 + 1)))) := ⟨by have h_ := Kd.C_take (m := (k1 + 1)) HO7.out (by have := HL.out; have := HI.out.2.1; omega); rw [List.length_take, Nat.min_eq_left (by have := HL.out; have := HI.out.2.1; omega)] at h_; exact h_⟩
        obtain ⟨i0, hi0, _, hsz0, _⟩ := info_parts info31
        have hcut := cut_to (P := Try.prog) 28 31 .i64 Try.underlying28 hi0 Ao5 holes.length co5 (((k1 : Int) + 1)) (by omega) (by have := HL.out; have := HI.out.2.1; omega) HO2.out
        clear hi0 hsz0
        go_wp2_with (first | ((with_reducible refine gate_builtin (b := .append) (xs := #[.const (.slice none 0 0), .tmp 51]) rfl ?_); at_builtin; refine Kd.R_append_rows k31 (Rr := k31.K w7) (w0 := w) w.heap.size rfl (.const (.slice none 0 0)) (.tmp 51) 28 31 (.agg #[(.int .u32 0), (.int .u32 0)]) 8 rfl Try.underlying28 info31 rfl (by decide) (by omega) (.slice none 0 0) [] (holes.take (k1 + 1)) Ao5 (k1 + 1) co5 (fun _ => True) (fun _ => False) rfl rfl ?aO ?aR ?aM (fun _ hk => hk.elim) (fun _ _ => trivial) ?aB ?aS ?aL ?_; (case aO => exact Kd.R_nil _ _ _ _ _); (case aR => exact HT.out); (case aM => exact fun x cs hk => by (have h_ := k31_open hk; subst h_; exact k31_mkM _ _ _ x)); (case aB => exact HB7.out); (case aS => exact HB7.out.size); (case aL => (first | (simp; done) | (simp; omega))); intro v1 w1 ha hb2 _ _; have HV := Aside0.mk ha; have HB2 := Aside0.mk hb2; clear ha hb2))
        go_ret2
        exact ⟨v1, rfl, by rw [hm.out]; exact HV.out, HB2.out⟩
      · have hm : Aside0 (lostMany h least k1 (above + ((rd_T31 h (k1 : Int)).f1 - (rd_T31 h (k1 : Int)).f0) % 4294967296) = lostMany h least h.length 0) := ⟨by rw [← hK, lostMany, if_neg cc]⟩
        have cb : decide (least ≤ above + ((rd_T31 h (k1 : Int)).f1 - (rd_T31 h (k1 : Int)).f0) % 4294967296) = false := decide_eq_false (by omega)
        clear hK cc
        go_wp2
        go_quiet (fail)
        go_wp2
        go_roundg k1
        case measure => omega
        case rel => exact ⟨_, (k1 : Int) - 1, rfl, rfl, rfl, ⟨rfl, by omega, by omega, by omega, hm.out⟩, ⟨by (with_reducible repeat (first | refine blk_drewN ?_ _ | refine blk_drew ?_ | refine blk_alloc ?_ _)); exact BK.out⟩, ⟨by repeat (first | exact HO.out | (with_reducible refine Kd.C_alloc ?_ _) | (with_reducible refine Kd.C_drewN ?_ _) | (with_reducible refine Kd.C_drew ?_))⟩, ⟨by repeat (first | (with_reducible first | exact HB.out | apply below_alloc | apply pw_below_drewN | apply below_drew1 | refine below_set ?_ GE.out) | exact HB.out)⟩⟩

end Go.Proofs.Ytlcccmaolbjcfaa.PSackMoves
