/- The walk of recvFact. -/
import Derived.Test.YtpanenghlpipkaaIn
import Derived.Test.YtpanenghlpipkaaBlocks
namespace Go.Proofs.Ytpanenghlpipkaa.Recv
open Go.RowKit Go.Proofs.Ytpanenghlpipkaa.PRecvOrder Go.Proofs.YtpanenghlpipkaaW.PrintWords Go.Proofs.YtpanenghlpipkaaW.PrintLast Go.Proofs.YtpanenghlpipkaaW.PrintMore
set_option linter.unusedVariables false
set_option linter.unusedSimpArgs false

theorem fact_store : storeAll ((10 : Int) - (([] : List Int).length : Int)) (dif 6 5) (bytesOf { data := #[98, 99] }) ([], [], 0) = ([0, 98, 99], [false, true, true], 2) := by first | decide | kernel_rfl | (simp [storeAll, store1, bytesOf, dif, wrap64, wrap32, pad])
theorem fact_blocks : blocksFrom 5 [false, true, true] 3 0 = [⟨6, 8⟩] := by rfl

theorem fact_cells {w : World} {base gb n cap : Nat} {ok : Nat → Prop} {a b : Int} (hv : k37.R 37 w base ok (.slice (some ⟨gb, 0, none⟩) n cap) [⟨a, b⟩]) : w.cell? ⟨gb, 0, none⟩ = some (.int .u32 a) ∧ w.cell? ⟨gb, 1, none⟩ = some (.int .u32 b) := by
  obtain ⟨hn, _, hC⟩ := Kd.R_reads' hv
  obtain ⟨ad, eA, hx1, hx2⟩ := at_T37 hC 0 (by decide) (by simp)
  injection eA with eA
  subst eA
  exact ⟨hx1, hx2⟩

set_option maxHeartbeats 4000000 in
set_option maxRecDepth 100000 in
theorem fact_calls (w : World) : Calls Try.prog 9 #[] w (fun e w' => e = .returned (.bool true) ∧ Below w.heap.size w w') := by
  have HN := Aside0.mk (new_calls 5 10 w (by decide) (by decide))
  have HIN := Aside0.mk (fun (w1 : World) (g : Nat) (hb : BufV w1 w.heap.size g 5 10 (.slice none 0 0) (.slice none 0 0) (.slice none 0 0) [] [] []) (hl : Below w.heap.size w w1) => in_calls w w1 6 { data := #[98, 99] } hb hl hl.size (by decide) (by decide) ⟨rfl, by decide⟩)
  go_enter Try.func9, Try.ntmps9
  go_wp2_with (go_at_call 8; refine HN.out.mono ?_; rintro e w1 ⟨g, rfl, hb, hbel⟩; have HB := Aside0.mk hb; have HL := Aside0.mk hbel; clear hb hbel)
  refine (HIN.out w1 g HB.out HL.out).mono ?_
  rintro e w2 ⟨he, hl⟩
  rw [fact_store] at he hl
  subst he
  obtain ⟨vr, vd, vt, hb2, hk2, ho2, hbel2⟩ := hl
  have HB2 : Aside0 (BufV w2 w.heap.size g 5 10 vr vd vt [] [0, 98, 99] [false, true, true]) := ⟨hb2⟩
  have HL2 := Aside0.mk hbel2
  clear hb2 hbel2 hk2 ho2
  simp only []
  go_wp2_with (go_at_call 13; refine (blocks_calls w2 HB2.out (by decide)).mono ?_; rintro e w3 ⟨v, rfl, hv, hb⟩; rw [show [false, true, true].length = 3 from rfl, fact_blocks] at hv; have HV := Aside0.mk hv; have HB3 := Aside0.mk (HB2.out.below hb); have HL3 := Aside0.mk (HL2.out.trans (hb.mono HL2.out.size)); obtain ⟨gb, cap, ev, _, _, _⟩ := Kd.R_form hv (by decide); subst ev; obtain ⟨hx1, hx2⟩ := fact_cells hv; obtain ⟨⟨c0, _⟩, _⟩ := HB3.out.cells; clear hv hb)
  refine (next_calls w3 HB3.out).mono ?_
  rintro e w4 ⟨rfl, hw_⟩
  obtain rfl := hw_.symm
  clear hw_
  go_wp2
  go_ret
  exact ⟨rfl, HL3.out⟩
end Go.Proofs.Ytpanenghlpipkaa.Recv
