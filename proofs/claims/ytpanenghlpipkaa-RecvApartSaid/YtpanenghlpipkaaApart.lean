/- The walk of RecvApart. -/
import Derived.Test.YtpanenghlpipkaaEdge
import Derived.Test.YtpanenghlpipkaaGaps
namespace Go.Proofs.Ytpanenghlpipkaa.Recv
open Go.RowKit Go.Proofs.Ytpanenghlpipkaa.PRecvOrder Go.Proofs.YtpanenghlpipkaaW.PrintWords Go.Proofs.YtpanenghlpipkaaW.PrintLast Go.Proofs.YtpanenghlpipkaaW.PrintMore
open Go.Proofs.Ytpanenghlpipkaa.Mine
set_option linter.unusedVariables false
set_option linter.unusedSimpArgs false

theorem r_base0 {α : Type} {d : Kd α} {e base : Nat} {ok : Nat → Prop} {W : World} {v : Value} {xs : List α} (h : d.R e W base ok v xs) : d.R e W 0 ok v xs := Kd.R_lower h (Nat.zero_le _)

set_option maxHeartbeats 8000000 in
set_option maxRecDepth 100000 in
theorem apart_calls (w : World) (first : Int) (A0 A1 : Option Addr) (k0 k1 : Nat) (l0 : List Int) (l1 : List ByteArray) (h0 : (Kd.int .i64).C w A0 l0.length l0) (h1 : Kd.string.C w A1 l1.length l1) :
    Calls Try.prog 3 #[.int .u32 first, .slice A0 l0.length k0, .slice A1 l1.length k1] w (fun e w' => e = .returned (.bool true) ∧ Below w.heap.size w w') := by
  have HR0 := Aside0.mk h0
  have HR1 := Aside0.mk h1
  clear h0 h1
  go_enter Try.func3, Try.ntmps3
  go_wp2_with (first
    | (go_at_call 8; with_reducible refine (new_has w w (Below.refl _ _) first 500 (by decide) (by decide)).mono ?_; rintro e w2 ⟨g, rfl, _, _, hh⟩; obtain ⟨b, hb⟩ : ∃ b_, b_ = (⟨first, 500, [], [], []⟩ : RB) := ⟨_, rfl⟩; rw [← hb] at hh; have hok := ok_new first 500 (by decide) (by decide); rw [← hb] at hok; have HOK := Aside0.mk hok; have HB := Aside0.mk hh; have HBE := Aside0.mk hb; clear hh hok hb)
    | (go_at_call 9; refine (fact_calls _).mono ?_; rintro e w3 ⟨rfl, hb_⟩; have hB := HB.out.elder hb_; clear HB hb_; have HB := Aside0.mk hB; clear hB))
  obtain ⟨n, hn⟩ : ∃ n_, n_ = min (min l0.length l1.length) 20 := ⟨_, rfl⟩
  have HN := Aside0.mk hn
  clear hn
  have HG : Aside0 (lead b.there = 0) := ⟨by rw [HBE.out]; rfl⟩
  have HRM : Aside0 (b.room = 500) := ⟨by rw [HBE.out]⟩
  clear HBE
  go_loopg [9] n (fun kq v9 w' => ∃ (i : Nat) (b : RB), v9 = .int .i64 i ∧ Aside0 (i + kq = n) ∧ Aside0 b.Ok ∧ Aside0 (lead b.there = 0) ∧ Aside0 (Has w w' g b))
  case atStart => exact ⟨0, b, rfl, ⟨by omega⟩, HOK, HG, HB⟩
  case round =>
    clear HOK HB HG HRM
    obtain ⟨i, b, rfl, HI, HOK, HG, HB⟩ := hrel
    cases gk with
    | zero =>
      have hcond : ∀ (K : Prop), (((decide ((i : Int) < (l0.length : Int)) = false ∧ decide (i < l0.length) = false) → K) ∧ ((decide ((i : Int) < (l0.length : Int)) = true ∧ decide (i < l0.length) = true) → (decide ((i : Int) < (l1.length : Int)) = false ∧ decide (i < l1.length) = false) → K) ∧ ((decide ((i : Int) < (l0.length : Int)) = true ∧ decide (i < l0.length) = true) → (decide ((i : Int) < (l1.length : Int)) = true ∧ decide (i < l1.length) = true) → (decide ((i : Int) < 20) = false ∧ decide (i < 20) = false) → K)) → K := by
        intro K hK
        have h1 := HI.out
        have h2 := HN.out
        by_cases d0 : i < l0.length
        · by_cases d1 : i < l1.length
          · exact hK.2.2 ⟨decide_eq_true (by omega), decide_eq_true d0⟩ ⟨decide_eq_true (by omega), decide_eq_true d1⟩ ⟨decide_eq_false (by omega), decide_eq_false (by omega)⟩
          · exact hK.2.1 ⟨decide_eq_true (by omega), decide_eq_true d0⟩ ⟨decide_eq_false (by omega), decide_eq_false d1⟩
        · exact hK.1 ⟨decide_eq_false (by omega), decide_eq_false d0⟩
      refine hcond _ ⟨?_, ?_, ?_⟩
      all_goals (
        intros
        clear hcond
        go_split_ands
        go_wp2_with (first
          | (go_at_call 13; refine (blocks_has HB.out HOK.out).mono ?_; rintro e w5 ⟨v, rfl, hv, hb⟩; rw [blocks_runs] at hv; have HV := Aside0.mk hv; have hB := HB.out.elder hb; have HLT := Aside0.mk hb.size; clear HB; have HB := Aside0.mk hB; obtain ⟨Av, nv, cv, ev⟩ := slice_any hv; subst ev; clear hv hb hB))
        obtain ⟨ps, hps⟩ : ∃ ps_, ps_ = runs b.there b.there.length 0 := ⟨_, rfl⟩
        have hch := RB.blocks_chain HG.out
        rw [← hps] at hch HV
        have hv := HV.out
        obtain ⟨A5, c5, e5⟩ := Kd.R_slice hv
        injection e5 with e5a e5b e5c
        subst e5a
        subst e5c
        rw [List.length_map] at e5b
        subst e5b
        have hL : (b.there.length : Int) ≤ b.room - b.ready.length := by have h1 := HOK.out.fits.1; have h2 := HOK.out.fits.2; simp only at h1 h2; omega
        have hW : (b.there.length : Int) ≤ 65535 := by have := HOK.out.room; omega
        have hpl : ps.length ≤ b.there.length := by rw [hps, ← List.length_map (blk b.next), ← blocks_runs]; exact blocksFrom_length _ _ _ _
        obtain ⟨L, hLd⟩ : ∃ L_, L_ = b.there.length := ⟨_, rfl⟩
        rw [← hLd] at hch hL hW hpl
        have HCH := Aside0.mk hch
        have HLE := Aside0.mk hL
        have hpn : (ps.length : Int) ≤ 65535 := by omega
        clear hps hch hv hL hpl hLd
        go_loopg [10, 62] ps.length (fun kq v10 v62 w' => ∃ (j last : Nat), v10 = .int .i64 last ∧ v62 = .int .i64 j ∧ Aside0 (j + kq = ps.length) ∧ Aside0 (Chain L last (ps.drop j)) ∧ Aside0 (Has w w' g b) ∧ Aside0 (k37.R 37 w' 0 (fun _ => True) (.slice Av ps.length cv) (ps.map (blk b.next))))
        case atStart => exact ⟨0, 0, rfl, rfl, ⟨by omega⟩, HCH, HB, ⟨r_base0 HV.out⟩⟩
        case round =>
          clear HB HV HCH
          obtain ⟨j, last, rfl, rfl, HJ, HCH, HB, HV⟩ := hrel
          cases gk with
          | zero =>
            have t1 : decide ((j : Int) < (ps.length : Int)) = false := decide_eq_false (by have := HJ.out; omega)
            have t2 : decide (j < ps.length) = false := decide_eq_false (by have := HJ.out; omega)
            go_wp2
            go_ret
            exact ⟨rfl, HB.out.below⟩
          | succ k4 =>
            have hj : j < ps.length := by have := HJ.out; omega
            have t1 : decide ((j : Int) < (ps.length : Int)) = true := decide_eq_true (by omega)
            have t2 : decide (j < ps.length) = true := decide_eq_true hj
            obtain ⟨p, hp⟩ : ∃ p_, p_ = ps[j] := ⟨_, rfl⟩
            have hc := HCH.out
            rw [List.drop_eq_getElem_cons hj, ← hp] at hc
            obtain ⟨q1, q2, q3, hc⟩ := hc
            have HCH2 := Aside0.mk hc
            have hC := (Kd.R_reads' HV.out).2.2
            obtain ⟨ad, ea, u0, u1⟩ := at_T37 hC (j : Int) (by omega) (by rw [List.length_map]; omega)
            have hrd : rd_T37 (ps.map (blk b.next)) (j : Int) = blk b.next p := by simp [rd_T37, hp, hj]
            rw [hrd, Int.toNat_natCast] at u0 u1
            have hu0 : wr.cell? (ad.add (j * 2)) = some (.int .u32 (addq b.next (p.1 : Int))) := u0
            have hu1 : wr.cell? ⟨(ad.add (j * 2)).block, (ad.add (j * 2)).off + 1, none⟩ = some (.int .u32 (addq b.next (p.2 : Int))) := u1
            cases ea
            clear u0 u1 hC hc hrd hp HCH
            have r0 : (0 : Int) ≤ (j : Int) := by omega
            have r1 : (j : Int) < (ps.length : Int) := by omega
            have HQ1 := Aside0.mk q1
            have HQ2 := Aside0.mk q2
            have HQ3 := Aside0.mk q3
            have HJ3 := Aside0.mk hj
            have HPN := Aside0.mk hpn
            have HW5 := Aside0.mk hW
            clear q1 q2 q3 hj hpn hW
            go_wp2
            obtain ⟨gx, hgx⟩ : ∃ gx_, gx_ = wr.heap.size := ⟨_, rfl⟩
            have hbk := heap_alloc_new wr (.cells #[.int .u32 (addq b.next (p.1 : Int)), .int .u32 (addq b.next (p.2 : Int))] 37 (0, 0))
            have hbl : Below wr.heap.size wr (wr.alloc (.cells #[.int .u32 (addq b.next (p.1 : Int)), .int .u32 (addq b.next (p.2 : Int))] 37 (0, 0))) := (Below.refl _ _).alloc (Nat.le_refl _) _
            generalize wr.alloc (.cells #[.int .u32 (addq b.next (p.1 : Int)), .int .u32 (addq b.next (p.2 : Int))] 37 (0, 0)) = wq at hbk hbl ⊢
            rw [← hgx] at hbk ⊢
            have y0 : wq.cell? ⟨gx, 0, none⟩ = some (.int .u32 (addq b.next (p.1 : Int))) := (blk_cell hbk 0).trans rfl
            have y1 : wq.cell? ⟨gx, 1, none⟩ = some (.int .u32 (addq b.next (p.2 : Int))) := (blk_cell hbk 1).trans rfl
            have hB2 := HB.out.elder hbl
            have hV2 := Kd.R_below HV.out hbl
            clear HB HV hbk hbl hgx hu0 hu1
            have HB := Aside0.mk hB2
            have HV := Aside0.mk hV2
            clear hB2 hV2
            have hD1 : ∀ W : World, Calls Try.prog 14 #[.int .u32 (addq b.next (p.1 : Int)), .int .u32 b.next] W fun e w' => e = .returned (.int .i64 (p.1 : Int)) ∧ w' = W := fun W => by
              have h_ := dif_calls (addq b.next (p.1 : Int)) b.next W
              rw [dif_addq b.next p.1 (by have := HQ2.out; have := HQ3.out; have := HW5.out; omega)] at h_
              exact h_
            have hD2 : ∀ W : World, Calls Try.prog 14 #[.int .u32 (addq b.next (p.2 : Int)), .int .u32 b.next] W fun e w' => e = .returned (.int .i64 (p.2 : Int)) ∧ w' = W := fun W => by
              have h_ := dif_calls (addq b.next (p.2 : Int)) b.next W
              rw [dif_addq b.next p.2 (by have := HQ3.out; have := HW5.out; omega)] at h_
              exact h_
            have HD1 := Aside0.mk hD1
            have HD2 := Aside0.mk hD2
            clear hD1 hD2
            have HBr := Aside0.mk HB.out.drew
            have HVr := Aside0.mk (Kd.R_drew HV.out)
            have y0r : wq.drew.cell? ⟨gx, 0, none⟩ = some (.int .u32 (addq b.next (p.1 : Int))) := y0
            have y1r : wq.drew.cell? ⟨gx, 1, none⟩ = some (.int .u32 (addq b.next (p.2 : Int))) := y1
            refine start_ (n := 12) (S := fun w' => w'.cell? ⟨gx, 0, none⟩ = some (.int .u32 (addq b.next (p.1 : Int))) ∧ w'.cell? ⟨gx, 1, none⟩ = some (.int .u32 (addq b.next (p.2 : Int)))) (ds := []) #[false, false, false, false, false, false, false, false, false, false, false, false] (by kernel_rfl) rfl rfl ⟨y0r, y1r⟩ (fun hHeld => ?_)
            clear y0 y1 HB HV
            generalize wq.drew = wd at HBr HVr y0r y1r hHeld ⊢
            refine pure_ (i := 0) (N := some 66) (v := ?_) (a' := ?_) #[true, false, false, false, false, false, false, false, false, false, false, false] rfl rfl (by kernel_rfl) (fun _ _ _ h => h) (Or.inl ⟨by rfl, ?_⟩) ?_ ?_
            rotate_left
            · intro w'
              go_simp
              with_reducible rfl
            rotate_left
            · simp only [Act.put, List.setIfInBounds_toArray, List.set_cons_zero, List.set_cons_succ, i64_w, i32_w]
              rfl
            refine pure_ (i := 2) (N := some 68) (v := ?_) (a' := ?_) #[true, false, true, false, false, false, false, false, false, false, false, false] rfl rfl (by kernel_rfl) (fun _ _ _ h => h) (Or.inl ⟨by rfl, ?_⟩) ?_ ?_
            rotate_left
            · intro w'
              go_simp
              with_reducible rfl
            rotate_left
            · simp only [Act.put, List.setIfInBounds_toArray, List.set_cons_zero, List.set_cons_succ, i64_w, i32_w]
              rfl
            refine pure_ (i := 5) (N := some 71) (v := ?_) (a' := ?_) #[true, false, true, false, false, true, false, false, false, false, false, false] rfl rfl (by kernel_rfl) (fun _ _ _ h => h) (Or.inl ⟨by rfl, ?_⟩) ?_ ?_
            rotate_left
            · intro w'
              go_simp
              with_reducible rfl
            rotate_left
            · simp only [Act.put, List.setIfInBounds_toArray, List.set_cons_zero, List.set_cons_succ, i64_w, i32_w]
              rfl
            refine pure_ (i := 7) (N := some 73) (v := ?_) (a' := ?_) #[true, false, true, false, false, true, false, true, false, false, false, false] rfl rfl (by kernel_rfl) (fun _ _ _ h => h) (Or.inl ⟨by rfl, ?_⟩) ?_ ?_
            rotate_left
            · intro w'
              go_simp
              with_reducible rfl
            rotate_left
            · simp only [Act.put, List.setIfInBounds_toArray, List.set_cons_zero, List.set_cons_succ, i64_w, i32_w]
              rfl
            refine take_ (i := 1) (N := some 67) (v := ?_) (a' := ?_) #[true, true, true, false, false, true, false, true, false, false, false, false] rfl rfl (by kernel_rfl) (fun _ _ _ h => h) (Or.inl ⟨by rfl, ?_⟩) hHeld ?_ ?_
            rotate_left
            · rintro w' ⟨s0, s1⟩
              go_simp
              with_reducible rfl
            rotate_left
            · simp only [Act.put, List.setIfInBounds_toArray, List.set_cons_zero, List.set_cons_succ, i64_w, i32_w]
              rfl
            refine take_ (i := 6) (N := some 72) (v := ?_) (a' := ?_) #[true, true, true, false, false, true, true, true, false, false, false, false] rfl rfl (by kernel_rfl) (fun _ _ _ h => h) (Or.inl ⟨by rfl, ?_⟩) hHeld ?_ ?_
            rotate_left
            · rintro w' ⟨s0, s1⟩
              go_simp
              with_reducible rfl
            rotate_left
            · simp only [Act.put, List.setIfInBounds_toArray, List.set_cons_zero, List.set_cons_succ, i64_w, i32_w]
              rfl
            refine one_ (i := 3) (N := some 69) #[true, true, true, true, false, true, true, true, false, false, false, false] rfl rfl (by kernel_rfl) (by decide) (fun K hK => ?_)
            refine goes_ Try.func15 (by kernel_rfl) rfl #[.pointer (some ⟨g, 0, none⟩)] (by rfl) rfl rfl (by (try simp only [List.map_toArray, List.map_cons, List.map_nil]); first | done | rfl) ?_
            with_reducible refine (next_has HBr.out).mono ?_
            rintro e w' ⟨rfl, hw_⟩; obtain rfl := hw_.symm; clear hw_
            refine ⟨_, rfl, ?_⟩
            refine hK.out _ _ ⟨y0r, y1r⟩ (fun hHeld => ?_)
            clear hK K
            refine norm_ (a' := ?_) ?_ ?_
            rotate_left
            · show Act.put _ (some 69) _ = _
              simp only [Act.put, List.setIfInBounds_toArray, List.set_cons_zero, List.set_cons_succ, i64_w, i32_w]
              rfl
            refine one_ (i := 4) (N := some 70) #[true, true, true, true, true, true, true, true, false, false, false, false] rfl rfl (by kernel_rfl) (by decide) (fun K hK => ?_)
            refine goes_ Try.func14 (by kernel_rfl) rfl #[.int .u32 (addq b.next (p.1 : Int)), .int .u32 b.next] (by rfl) rfl rfl (by (try simp only [List.map_toArray, List.map_cons, List.map_nil]); first | done | rfl) ?_
            with_reducible refine (HD1.out _).mono ?_
            rintro e w' ⟨rfl, hw_⟩; obtain rfl := hw_.symm; clear hw_
            refine ⟨_, rfl, ?_⟩
            refine hK.out _ _ ⟨y0r, y1r⟩ (fun hHeld => ?_)
            clear hK K
            refine norm_ (a' := ?_) ?_ ?_
            rotate_left
            · show Act.put _ (some 70) _ = _
              simp only [Act.put, List.setIfInBounds_toArray, List.set_cons_zero, List.set_cons_succ, i64_w, i32_w]
              rfl
            refine one_ (i := 8) (N := some 74) #[true, true, true, true, true, true, true, true, true, false, false, false] rfl rfl (by kernel_rfl) (by decide) (fun K hK => ?_)
            refine goes_ Try.func15 (by kernel_rfl) rfl #[.pointer (some ⟨g, 0, none⟩)] (by rfl) rfl rfl (by (try simp only [List.map_toArray, List.map_cons, List.map_nil]); first | done | rfl) ?_
            with_reducible refine (next_has HBr.out).mono ?_
            rintro e w' ⟨rfl, hw_⟩; obtain rfl := hw_.symm; clear hw_
            refine ⟨_, rfl, ?_⟩
            refine hK.out _ _ ⟨y0r, y1r⟩ (fun hHeld => ?_)
            clear hK K
            refine norm_ (a' := ?_) ?_ ?_
            rotate_left
            · show Act.put _ (some 74) _ = _
              simp only [Act.put, List.setIfInBounds_toArray, List.set_cons_zero, List.set_cons_succ, i64_w, i32_w]
              rfl
            refine one_ (i := 9) (N := some 75) #[true, true, true, true, true, true, true, true, true, true, false, false] rfl rfl (by kernel_rfl) (by decide) (fun K hK => ?_)
            refine goes_ Try.func14 (by kernel_rfl) rfl #[.int .u32 (addq b.next (p.2 : Int)), .int .u32 b.next] (by rfl) rfl rfl (by (try simp only [List.map_toArray, List.map_cons, List.map_nil]); first | done | rfl) ?_
            with_reducible refine (HD2.out _).mono ?_
            rintro e w' ⟨rfl, hw_⟩; obtain rfl := hw_.symm; clear hw_
            refine ⟨_, rfl, ?_⟩
            refine hK.out _ _ ⟨y0r, y1r⟩ (fun hHeld => ?_)
            clear hK K
            refine norm_ (a' := ?_) ?_ ?_
            rotate_left
            · show Act.put _ (some 75) _ = _
              simp only [Act.put, List.setIfInBounds_toArray, List.set_cons_zero, List.set_cons_succ, i64_w, i32_w]
              rfl
            refine pure_ (i := 10) (N := some 13) (v := ?_) (a' := ?_) #[true, true, true, true, true, true, true, true, true, true, true, false] rfl rfl (by kernel_rfl) (fun _ _ _ h => h) (Or.inl ⟨by rfl, ?_⟩) ?_ ?_
            rotate_left
            · intro w'
              go_simp
              with_reducible rfl
            rotate_left
            · simp only [Act.put, List.setIfInBounds_toArray, List.set_cons_zero, List.set_cons_succ, i64_w, i32_w]
              rfl
            refine pure_ (i := 11) (N := some 14) (v := ?_) (a' := ?_) #[true, true, true, true, true, true, true, true, true, true, true, true] rfl rfl (by kernel_rfl) (fun _ _ _ h => h) (Or.inl ⟨by rfl, ?_⟩) ?_ ?_
            rotate_left
            · intro w'
              go_simp
              with_reducible rfl
            rotate_left
            · simp only [Act.put, List.setIfInBounds_toArray, List.set_cons_zero, List.set_cons_succ, i64_w, i32_w]
              rfl
            refine done_ (by kernel_rfl) ?_
            have HB := Aside0.mk HBr.out
            have HV := Aside0.mk HVr.out
            clear HBr HVr y0r y1r
            have c1 : decide ((p.1 : Int) ≤ (last : Int)) = false := decide_eq_false (by have := HQ1.out; omega)
            have c2 : decide ((p.2 : Int) ≤ (p.1 : Int)) = false := decide_eq_false (by have := HQ2.out; omega)
            have c1n : decide (p.1 ≤ last) = false := decide_eq_false (by have := HQ1.out; omega)
            have c2n : decide (p.2 ≤ p.1) = false := decide_eq_false (by have := HQ2.out; omega)
            have c3 : decide (b.room - (b.ready.length : Int) < (p.2 : Int)) = false := decide_eq_false (by have := HQ3.out; have := HLE.out; omega)
            have t9 : wrap64 ((j : Int) + 1) = ((j + 1 : Nat) : Int) := by simp only [wrap64]; have := HPN.out; omega
            go_wp2_with (go_at_call 16; with_reducible refine (window_has HB.out HOK.out).mono ?_; rintro e w' ⟨rfl, nd, hw_⟩; have hB := HB.out.drewN nd; have hV := Kd.R_drewN HV.out nd; rw [← hw_] at hB hV; clear HB HV hw_; have HB := Aside0.mk hB; have HV := Aside0.mk hV; clear hB hV)
            go_roundg k4
            case measure => omega
            case rel => exact ⟨j + 1, p.2, rfl, by first | rw [t9] | rfl | simp, ⟨by have := HJ.out; omega⟩, HCH2, HB, HV⟩)
    | succ k3 =>
      have hi : i < n := by have := HI.out; omega
      have i0 : i < l0.length := by have := HN.out; omega
      have i1 : i < l1.length := by have := HN.out; omega
      have i3 : i < 20 := by have := HN.out; omega
      have d0b : decide ((i : Int) < (l0.length : Int)) = true := decide_eq_true (by omega)
      have d0c : decide (i < l0.length) = true := decide_eq_true i0
      have d1b : decide ((i : Int) < (l1.length : Int)) = true := decide_eq_true (by omega)
      have d1c : decide (i < l1.length) = true := decide_eq_true i1
      have d3b : decide ((i : Int) < 20) = true := decide_eq_true (by omega)
      have d3c : decide (i < 20) = true := decide_eq_true i3
      have t7 : wrap64 ((i : Int) + 1) = ((i + 1 : Nat) : Int) := by simp only [wrap64]; omega
      obtain ⟨ad0, e0, x0⟩ := Kd.at_int HR0.out (i : Int) (by omega) (by omega)
      obtain ⟨ad1, e1, x1⟩ := Kd.at_string HR1.out (i : Int) (by omega) (by omega)
      rw [Int.toNat_natCast] at x0 x1
      cases e0
      cases e1
      obtain ⟨x, hx⟩ : ∃ x_, x_ = rd l0 (i : Int) := ⟨_, rfl⟩
      obtain ⟨s, hs⟩ : ∃ s_, s_ = rdOf ByteArray.empty l1 (i : Int) := ⟨_, rfl⟩
      rw [← hx] at x0
      rw [← hs] at x1
      have HX0 := Aside0.mk x0
      have HX1 := Aside0.mk x1
      have y0 := (HB.out.below.cell (World.block_lt_of_cell? w _ x0)).trans x0
      have y1 := (HB.out.below.cell (World.block_lt_of_cell? w _ x1)).trans x1
      clear x0 x1 hx hs hi
      have p0 : (0 : Int) ≤ (i : Int) := by omega
      have p1 : (i : Int) < (l0.length : Int) := by omega
      have p2 : (i : Int) < (l1.length : Int) := by omega
      go_wp2
      have HBr := Aside0.mk HB.out.drew
      have y0r : wr.drew.cell? (ad0.add i) = some (.int .i64 x) := y0
      have y1r : wr.drew.cell? (ad1.add i) = some (.string s) := y1
      refine start_ (n := 13) (S := fun w' => w'.cell? (ad0.add i) = some (.int .i64 x) ∧ w'.cell? (ad1.add i) = some (.string s)) (ds := []) #[false, false, false, false, false, false, false, false, false, false, false, false, false] (by kernel_rfl) rfl rfl ⟨y0r, y1r⟩ (fun hHeld => ?_)
      clear y0 y1 HB
      generalize wr.drew = wd at HBr y0r y1r hHeld ⊢
      refine pure_ (i := 0) (N := some 46) (v := ?_) (a' := ?_) #[true, false, false, false, false, false, false, false, false, false, false, false, false] rfl rfl (by kernel_rfl) (fun _ _ _ h => h) (Or.inl ⟨by rfl, ?_⟩) ?_ ?_
      rotate_left
      · intro w'
        go_simp
        with_reducible rfl
      rotate_left
      · simp only [Act.put, List.setIfInBounds_toArray, List.set_cons_zero, List.set_cons_succ, i64_w, i32_w]
        rfl
      refine pure_ (i := 1) (N := some 47) (v := ?_) (a' := ?_) #[true, true, false, false, false, false, false, false, false, false, false, false, false] rfl rfl (by kernel_rfl) (fun _ _ _ h => h) (Or.inl ⟨by rfl, ?_⟩) ?_ ?_
      rotate_left
      · intro w'
        go_simp
        with_reducible rfl
      rotate_left
      · simp only [Act.put, List.setIfInBounds_toArray, List.set_cons_zero, List.set_cons_succ, i64_w, i32_w]
        rfl
      refine pure_ (i := 2) (N := some 48) (v := ?_) (a' := ?_) #[true, true, true, false, false, false, false, false, false, false, false, false, false] rfl rfl (by kernel_rfl) (fun _ _ _ h => h) (Or.inl ⟨by rfl, ?_⟩) ?_ ?_
      rotate_left
      · intro w'
        go_simp
        with_reducible rfl
      rotate_left
      · simp only [Act.put, List.setIfInBounds_toArray, List.set_cons_zero, List.set_cons_succ, i64_w, i32_w]
        rfl
      refine pure_ (i := 3) (N := some 49) (v := ?_) (a' := ?_) #[true, true, true, true, false, false, false, false, false, false, false, false, false] rfl rfl (by kernel_rfl) (fun _ _ _ h => h) (Or.inl ⟨by rfl, ?_⟩) ?_ ?_
      rotate_left
      · intro w'
        go_simp
        with_reducible rfl
      rotate_left
      · simp only [Act.put, List.setIfInBounds_toArray, List.set_cons_zero, List.set_cons_succ, i64_w, i32_w]
        rfl
      refine pure_ (i := 4) (N := some 50) (v := ?_) (a' := ?_) #[true, true, true, true, true, false, false, false, false, false, false, false, false] rfl rfl (by kernel_rfl) (fun _ _ _ h => h) (Or.inl ⟨by rfl, ?_⟩) ?_ ?_
      rotate_left
      · intro w'
        go_simp
        with_reducible rfl
      rotate_left
      · simp only [Act.put, List.setIfInBounds_toArray, List.set_cons_zero, List.set_cons_succ, i64_w, i32_w]
        rfl
      refine pure_ (i := 8) (N := some 54) (v := ?_) (a' := ?_) #[true, true, true, true, true, false, false, false, true, false, false, false, false] rfl rfl (by kernel_rfl) (fun _ _ _ h => h) (Or.inl ⟨by rfl, ?_⟩) ?_ ?_
      rotate_left
      · intro w'
        go_simp
        with_reducible rfl
      rotate_left
      · simp only [Act.put, List.setIfInBounds_toArray, List.set_cons_zero, List.set_cons_succ, i64_w, i32_w]
        rfl
      refine pure_ (i := 9) (N := some 55) (v := ?_) (a' := ?_) #[true, true, true, true, true, false, false, false, true, true, false, false, false] rfl rfl (by kernel_rfl) (fun _ _ _ h => h) (Or.inl ⟨by rfl, ?_⟩) ?_ ?_
      rotate_left
      · intro w'
        go_simp
        with_reducible rfl
      rotate_left
      · simp only [Act.put, List.setIfInBounds_toArray, List.set_cons_zero, List.set_cons_succ, i64_w, i32_w]
        rfl
      refine pure_ (i := 10) (N := some 56) (v := ?_) (a' := ?_) #[true, true, true, true, true, false, false, false, true, true, true, false, false] rfl rfl (by kernel_rfl) (fun _ _ _ h => h) (Or.inl ⟨by rfl, ?_⟩) ?_ ?_
      rotate_left
      · intro w'
        go_simp
        with_reducible rfl
      rotate_left
      · simp only [Act.put, List.setIfInBounds_toArray, List.set_cons_zero, List.set_cons_succ, i64_w, i32_w]
        rfl
      refine take_ (i := 5) (N := some 51) (v := ?_) (a' := ?_) #[true, true, true, true, true, true, false, false, true, true, true, false, false] rfl rfl (by kernel_rfl) (fun _ _ _ h => h) (Or.inl ⟨by rfl, ?_⟩) hHeld ?_ ?_
      rotate_left
      · rintro w' ⟨s0, s1⟩
        go_simp
        with_reducible rfl
      rotate_left
      · simp only [Act.put, List.setIfInBounds_toArray, List.set_cons_zero, List.set_cons_succ, i64_w, i32_w]
        rfl
      refine take_ (i := 11) (N := some 57) (v := ?_) (a' := ?_) #[true, true, true, true, true, true, false, false, true, true, true, true, false] rfl rfl (by kernel_rfl) (fun _ _ _ h => h) (Or.inl ⟨by rfl, ?_⟩) hHeld ?_ ?_
      rotate_left
      · rintro w' ⟨s0, s1⟩
        go_simp
        with_reducible rfl
      rotate_left
      · simp only [Act.put, List.setIfInBounds_toArray, List.set_cons_zero, List.set_cons_succ, i64_w, i32_w]
        rfl
      refine one_ (i := 6) (N := some 52) #[true, true, true, true, true, true, true, false, true, true, true, true, false] rfl rfl (by kernel_rfl) (by decide) (fun K hK => ?_)
      refine goes_ Try.func12 (by kernel_rfl) rfl #[.int .i64 x, .int .i64 700] (by rfl) rfl rfl (by (try simp only [List.map_toArray, List.map_cons, List.map_nil]); first | done | rfl) ?_
      with_reducible refine (rest_calls x 700 _ (by decide) (by decide)).mono ?_
      rintro e w' ⟨rfl, hw_⟩; obtain rfl := hw_.symm; clear hw_
      refine ⟨_, rfl, ?_⟩
      refine hK.out _ _ ⟨y0r, y1r⟩ (fun hHeld => ?_)
      clear hK K
      refine norm_ (a' := ?_) ?_ ?_
      rotate_left
      · show Act.put _ (some 52) _ = _
        simp only [Act.put, List.setIfInBounds_toArray, List.set_cons_zero, List.set_cons_succ, i64_w, i32_w]
        rfl
      refine one_ (i := 7) (N := some 53) #[true, true, true, true, true, true, true, true, true, true, true, true, false] rfl rfl (by kernel_rfl) (by decide) (fun K hK => ?_)
      refine goes_ Try.func11 (by kernel_rfl) rfl #[.int .u32 first, .int .i64 (rst x 700)] (by rfl) rfl rfl (by (try simp only [List.map_toArray, List.map_cons, List.map_nil]); first | done | rfl) ?_
      with_reducible refine (addq_calls first (rst x 700) _).mono ?_
      rintro e w' ⟨rfl, hw_⟩; obtain rfl := hw_.symm; clear hw_
      refine ⟨_, rfl, ?_⟩
      refine hK.out _ _ ⟨y0r, y1r⟩ (fun hHeld => ?_)
      clear hK K
      refine norm_ (a' := ?_) ?_ ?_
      rotate_left
      · show Act.put _ (some 53) _ = _
        simp only [Act.put, List.setIfInBounds_toArray, List.set_cons_zero, List.set_cons_succ, i64_w, i32_w]
        rfl
      refine one_ (i := 12) (N := some 58) #[true, true, true, true, true, true, true, true, true, true, true, true, true] rfl rfl (by kernel_rfl) (by decide) (fun K hK => ?_)
      refine goes_ Try.func10 (by kernel_rfl) rfl #[.pointer (some ⟨g, 0, none⟩), .int .u32 (addq first (rst x 700)), .string s] (by rfl) rfl rfl (by (try simp only [List.map_toArray, List.map_cons, List.map_nil]); first | done | rfl) ?_
      with_reducible refine (in_has HBr.out HOK.out (addq first (rst x 700)) s).mono ?_
      rintro e w3 ⟨rfl, hB⟩
      have HB := Aside0.mk hB
      clear hB HBr y0r y1r
      refine ⟨_, rfl, ?_⟩
      refine hK.out _ _ ⟨(HB.out.below.cell (World.block_lt_of_cell? w _ HX0.out)).trans HX0.out, (HB.out.below.cell (World.block_lt_of_cell? w _ HX1.out)).trans HX1.out⟩ (fun hHeld => ?_)
      clear hK K
      refine norm_ (a' := ?_) ?_ ?_
      rotate_left
      · show Act.put _ (some 58) _ = _
        simp only [Act.put, List.setIfInBounds_toArray, List.set_cons_zero, List.set_cons_succ, i64_w, i32_w]
        rfl
      refine done_ (by kernel_rfl) ?_
      have HOK2 := Aside0.mk (HOK.out.put (addq first (rst x 700)) s)
      have HG2 := Aside0.mk (RB.gap_put HG.out (addq first (rst x 700)) s)
      try go_wp2
      go_roundg k3
      case measure => omega
      case rel => exact ⟨i + 1, _, by first | rw [t7] | rfl | simp, ⟨by have := HI.out; omega⟩, HOK2, HG2, HB⟩
end Go.Proofs.Ytpanenghlpipkaa.Recv
