/- The walk of flip: it answers the string in which one bit of one byte is changed, and makes new memory alone. -/
import Derived.Test.YtlcccmaolbjcfaaSegSum
import Derived.RegionTactic
import Derived.ChangeAlike
namespace Go.Proofs.Ytlcccmaolbjcfaa.PSegElsewhere
open Go.RowKit Go.Proofs.YtlcccmaolbjcfaaW.PrintWords Go.Proofs.YtlcccmaolbjcfaaW.PrintLast Go.Proofs.YtlcccmaolbjcfaaW.PrintMore
open Go.Proofs.Ytlcccmaolbjcfaa.Mine
set_option linter.unusedVariables false
set_option linter.unusedSimpArgs false

theorem frozen_bytes (w : World) (e : TypeId) (s : ByteArray) (j : Nat) (hj : j < s.size) : (Lib.bytesWorld w e s).frozen? ⟨w.heap.size, j, none⟩ = false := by
  unfold World.frozen?
  rw [Lib.bytesWorld_at_new]
  simp [Lib.bytesCells]
  omega

/-- The string in which one bit of one byte is changed. -/
def flipS (s : ByteArray) (at_ : Nat) (bit : Int) : ByteArray := strOfNums ((bytesOf s).set at_ (Go.bits .xor .u8 (rd (bytesOf s) at_) (2 ^ bit.toNat % 256)))

theorem flipped_reads (w : World) (e : TypeId) (s : ByteArray) (at_ : Nat) (v : Int) (h1 : at_ < s.size) (hs : s.size ≤ 100000) :
    ReadsInt (((Lib.bytesWorld w e s).setCell ⟨w.heap.size, at_, none⟩ (.int .u8 v)).drew) .u8 (some ⟨w.heap.size, 0, none⟩) s.size ((bytesOf s).set at_ v) := by
  have hr := bytes_reads w e s (by omega)
  refine ⟨by rw [List.length_set]; exact bytesOf_length s, by omega, fun _ => ⟨_, rfl, fun j hj => ?_⟩⟩
  have hc := Lib.bytesWorld_cell w e s at_ h1
  have hcell : (((Lib.bytesWorld w e s).setCell ⟨w.heap.size, at_, none⟩ (.int .u8 v)).drew).cell? ((⟨w.heap.size, 0, none⟩ : Addr).add j) = ((Lib.bytesWorld w e s).setCell ⟨w.heap.size, at_, none⟩ (.int .u8 v)).cell? ((⟨w.heap.size, 0, none⟩ : Addr).add j) := by simp [World.drew, World.cell?]
  rw [hcell, add_plain]
  by_cases hne : at_ = j
  · subst hne
    rw [World.cell?_setCell_same (h := hc)]
    have hlt : at_ < (bytesOf s).length := by rw [bytesOf_length]; exact h1
    simp [List.getD_eq_getElem?_getD, hlt]
  · have hne2 : (⟨w.heap.size, at_, none⟩ : Addr) ≠ ⟨w.heap.size, j, none⟩ := fun hh => hne (by injection hh)
    rw [World.cell?_setCell_other (h := hne2)]
    obtain ⟨ad, h2, h3⟩ := hr.2.2 (by omega)
    obtain rfl := Option.some.inj h2
    have h4 := h3 j hj
    rw [add_plain] at h4
    rw [h4]
    simp [List.getD_eq_getElem?_getD, hne]

set_option maxRecDepth 100000 in
theorem flip_calls (s : ByteArray) (at_ : Nat) (bit : Int) (w : World) (h1 : at_ < s.size) (h2 : 0 ≤ bit) (h3 : bit < 8) (hs : s.size ≤ 100000) :
    Calls Try.prog 25 #[.string s, .int .i64 (at_ : Int), .int .i64 bit] w fun e w' => e = .returned (.string (flipS s at_ bit)) ∧ Below w.heap.size w w' := by
  have kb := fun W => print_bytes (P := Try.prog) 9 24 5 Try.underlying9 Try.underlying24 Try.underlying5 s W
  have hc := Lib.bytesWorld_cell w 5 s at_ h1
  have hf := frozen_bytes w 5 s at_ h1
  have g1 : (0 : Int) ≤ (at_ : Int) := by omega
  have g2 : (at_ : Int) < (s.size : Int) := by omega
  have hrd : rd (bytesOf s) (at_ : Int) = (s.data[at_]'h1).toNat := by
    rw [rd_bytesOf]
    unfold bt
    simp [h1]
    rfl
  have hread := flipped_reads w 5 s at_ (Go.bits .xor .u8 ((s.data[at_]'h1).toNat : Int) (2 ^ bit.toNat % 256)) h1 hs
  have kc := fun c => string_of_reads (P := Try.prog) (src := 24) (dst := 9) (e := 5) (c := c) Try.underlying24 Try.underlying5 Try.underlying9 hread
  have hb : Below w.heap.size w (((Lib.bytesWorld w 5 s).setCell ⟨w.heap.size, at_, none⟩ (.int .u8 (Go.bits .xor .u8 ((s.data[at_]'h1).toNat : Int) (2 ^ bit.toNat % 256)))).drew) :=
    below_drew1 (below_set (bytes_below (Below.refl w.heap.size w) (Nat.le_refl _) 5 s) (Nat.le_refl _))
  have HE : Aside0 (flipS s at_ bit = strOfNums ((bytesOf s).set at_ (Go.bits .xor .u8 ((s.data[at_]'h1).toNat : Int) (2 ^ bit.toNat % 256)))) := ⟨by unfold flipS; rw [hrd]⟩
  have HB := Aside0.mk hb
  clear hread hrd hb
  go_enter Try.func25, Try.ntmps25
  go_wp2
  go_region
  go_wp2
  go_ret
  exact ⟨by rw [HE.out]; rfl, HB.out⟩
end Go.Proofs.Ytlcccmaolbjcfaa.PSegElsewhere
