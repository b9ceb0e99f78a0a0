/- A receive buffer in memory: its block, the three rows that it owns, and what a call on it keeps. -/
import Derived.Test.YtpanenghlpipkaaPRecvOrderx1
import Derived.Test.YtpanenghlpipkaaMine
namespace Go.Proofs.Ytpanenghlpipkaa.Recv
open Go.RowKit Go.Proofs.Ytpanenghlpipkaa.PRecvOrder Go.Proofs.YtpanenghlpipkaaW.PrintWords Go.Proofs.YtpanenghlpipkaaW.PrintLast Go.Proofs.YtpanenghlpipkaaW.PrintMore
set_option linter.unusedVariables false
set_option linter.unusedSimpArgs false

theorem info5 : (Try.prog.info? 5).map (fun i => (i.zero, i.size, i.bytes)) = some (some (.int .u8 0), 1, 1) := by kernel_rfl
theorem info4 : (Try.prog.info? 4).map (fun i => (i.zero, i.size, i.bytes)) = some (some (.bool false), 1, 1) := by kernel_rfl

/-- The blocks of a buffer. -/
def Own (g : Nat) (vr vd vt : Value) (k : Nat) : Prop := k = g ∨ vr.ownBlock = some k ∨ vd.ownBlock = some k ∨ vt.ownBlock = some k

/-- A buffer at block g: the fields' values, and the lists that its rows hold. -/
structure BufV (W : World) (base g : Nat) (next room : Int) (vr vd vt : Value) (ready data : List Int) (there : List Bool) : Prop where
  blk : W.heap[g]? = some (.cells #[.int .u32 next, .int .i64 room, vr, vd, vt] 51 (0, 0))
  ge : base ≤ g
  r : (Kd.int .u8).R 5 W base (fun _ => True) vr ready
  d : (Kd.int .u8).Q 5 W base (fun _ => True) vd data
  t : Kd.bool.Q 4 W base (fun _ => True) vt there
  sep : ∀ k, vr.ownBlock = some k → vd.ownBlock = some k → False

theorem R_own {α : Type} {d : Kd α} {e base : Nat} {ok : Nat → Prop} {W : World} {v : Value} {xs : List α} (hE : d.E = []) (h : d.R e W base ok v xs) : d.R e W base (fun k => some k = v.ownBlock) v xs := Kd.R_tight hE h

section
variable {W W2 : World} {base g : Nat} {next room : Int} {vr vd vt : Value} {ready data : List Int} {there : List Bool}

theorem BufV.kept {S : Nat → Prop} (h : BufV W base g next room vr vd vt ready data there) (hk : Kept W W2 S) (hn : ∀ k, Own g vr vd vt k → ¬ S k) : BufV W2 base g next room vr vd vt ready data there where
  blk := blk_kept h.blk hk (hn g (.inl rfl))
  ge := h.ge
  r := Kd.R_mono (Kd.R_kept (Kd.R_tight rfl h.r) hk (fun k hk' => hn k (.inr (.inl hk'.symm)))) (fun _ _ => trivial)
  d := Kd.Q_mono (Kd.Q_kept (Kd.Q_tight rfl h.d) hk (fun k hk' => hn k (.inr (.inr (.inl hk'.symm))))) (fun _ _ => trivial)
  t := Kd.Q_mono (Kd.Q_kept (Kd.Q_tight rfl h.t) hk (fun k hk' => hn k (.inr (.inr (.inr hk'.symm))))) (fun _ _ => trivial)
  sep := h.sep

theorem BufV.below (h : BufV W base g next room vr vd vt ready data there) (hb : Below W.heap.size W W2) : BufV W2 base g next room vr vd vt ready data there :=
  h.kept (Kept.of_below hb (fun _ => False)) (fun _ _ hf => hf)

theorem BufV.lt (h : BufV W base g next room vr vd vt ready data there) : ∀ k, Own g vr vd vt k → k < W.heap.size := by
  rintro k (rfl | hk | hk | hk)
  · exact blk_lt h.blk
  · exact Kd.R_lt h.r k hk
  · exact Kd.Q_lt h.d k hk
  · exact Kd.Q_lt h.t k hk

theorem BufV.own_ge (h : BufV W base g next room vr vd vt ready data there) : ∀ k, Own g vr vd vt k → base ≤ k := by
  rintro k (rfl | hk | hk | hk)
  · exact h.ge
  · exact Kd.R_base h.r k hk
  · exact Kd.Q_base h.d k hk
  · exact Kd.Q_base h.t k hk

/-- The fields' cells. -/
theorem BufV.cells (h : BufV W base g next room vr vd vt ready data there) :
    (W.cell? ⟨g, 0, none⟩ = some (.int .u32 next) ∧ W.cell? ⟨g, 1, none⟩ = some (.int .i64 room) ∧ W.cell? ⟨g, 2, none⟩ = some vr ∧ W.cell? ⟨g, 3, none⟩ = some vd ∧ W.cell? ⟨g, 4, none⟩ = some vt) ∧
    (W.frozen? ⟨g, 0, none⟩ = false ∧ W.frozen? ⟨g, 1, none⟩ = false ∧ W.frozen? ⟨g, 2, none⟩ = false ∧ W.frozen? ⟨g, 3, none⟩ = false ∧ W.frozen? ⟨g, 4, none⟩ = false) :=
  ⟨⟨(blk_cell h.blk 0).trans rfl, (blk_cell h.blk 1).trans rfl, (blk_cell h.blk 2).trans rfl, (blk_cell h.blk 3).trans rfl, (blk_cell h.blk 4).trans rfl⟩,
   blk_frozen h.blk 0, blk_frozen h.blk 1, blk_frozen h.blk 2, blk_frozen h.blk 3, blk_frozen h.blk 4⟩
end

set_option maxRecDepth 100000 in
/-- recv.New with a room that it takes: an empty buffer. -/
theorem new_calls (first room : Int) (w : World) (h1 : 1 ≤ room) (h2 : room ≤ 65535) :
    Calls Try.prog 8 #[.int .u32 first, .int .i64 room] w fun e w' => ∃ g : Nat, e = .returned (.tuple #[.pointer (some ⟨g, 0, none⟩), .int .i64 0]) ∧
      BufV w' w.heap.size g first room (.slice none 0 0) (.slice none 0 0) (.slice none 0 0) [] [] [] ∧ Below w.heap.size w w' := by
  have hu51 := Try.underlying51
  have c1 : decide (room < 1) = false := decide_eq_false (by omega)
  have c2 : decide (65535 < room) = false := decide_eq_false (by omega)
  have HB := Aside0.mk (Below.refl w.heap.size w)
  go_enter Try.func8, Try.ntmps8
  go_wp2_with ((with_reducible refine gate_dst (N := 15) rfl ?_); refine box_event ?hg (N := 15) ?hd (cs := #[.int .u32 first, .int .i64 room, .slice none 0 0, .slice none 0 0, .slice none 0 0]) (t := 51) ?hr ?_; (case hd => rfl); (case hg => rfl); (case hr => first | (go_simp; done) | (go_simp; rfl)); intro g hg w3 hbox hb; have HB2 := Aside0.mk hb; have HK := Aside0.mk hbox; have HG := Aside0.mk hg; clear hb hbox hg)
  go_ret2
  exact ⟨g, rfl, ⟨HK.out, by rw [HG.out]; exact Nat.le_refl _, Kd.R_nil _ _ _ _ _, Kd.Q_nil _ _ _ _ _, Kd.Q_nil _ _ _ _ _, fun k h _ => by cases h⟩, HB2.out⟩

section
variable {base g : Nat} {next room : Int} {vr vd vt : Value} {ready data : List Int} {there : List Bool}

set_option maxRecDepth 100000 in
theorem next_calls (w : World) (h : BufV w base g next room vr vd vt ready data there) : Calls Try.prog 15 #[.pointer (some ⟨g, 0, none⟩)] w fun e w' => e = .returned (.int .u32 next) ∧ w' = w := by
  obtain ⟨⟨h0, h1, h2, h3, h4⟩, _⟩ := h.cells
  clear h1 h2 h3 h4
  go_enter Try.func15, Try.ntmps15
  go_wp2
  go_ret
  exact ⟨rfl, rfl⟩

set_option maxRecDepth 100000 in
theorem window_calls (w : World) (h : BufV w base g next room vr vd vt ready data there) (h5 : 0 ≤ room ∧ room ≤ 65535) (h6 : ready.length ≤ 100000) : Calls Try.prog 16 #[.pointer (some ⟨g, 0, none⟩)] w fun e w' => e = .returned (.int .i64 (room - ready.length)) ∧ ∃ nd, w' = w.drewN nd := by
  obtain ⟨⟨h0, h1, h2, h3, h4⟩, _⟩ := h.cells
  obtain ⟨A, c, rfl⟩ := Kd.R_slice h.r
  clear h0 h3 h4
  have a0 := h5.1
  have a1 := h5.2
  have a2 : (ready.length : Int) ≤ 100000 := by omega
  go_enter Try.func16, Try.ntmps16
  go_wp2
  go_quiet (fail)
  go_wp2
  go_ret
  exact ⟨rfl, _, rfl⟩

/-- A row of type e is not the block of the buffer. -/
theorem BufV.put_ready {w1 : World} {v1 : Value} {ready' : List Int} (h : BufV w1 base g next room vr vd vt ready data there) (hv : (Kd.int .u8).R 5 w1 base (fun _ => True) v1 ready')
    (hs : ∀ k, v1.ownBlock = some k → vd.ownBlock = some k → False) : BufV (w1.setCell ⟨g, 2, none⟩ v1) base g next room v1 vd vt ready' data there where
  blk := blk_put h.blk 2 _ rfl
  ge := h.ge
  r := Kd.R_mono (Kd.R_far (p := ⟨g, 2, none⟩) (Kd.R_types hv h.blk (by decide)) (fun _ hk => hk.2) _) (fun _ _ => trivial)
  d := Kd.Q_set h.d h.blk (by decide) 2 v1
  t := Kd.Q_set h.t h.blk (by decide) 2 v1
  sep := hs

theorem BufV.put_queues {w1 : World} {v3 v4 : Value} {data' : List Int} {there' : List Bool} (h : BufV w1 base g next room vr vd vt ready data there) (h3 : (Kd.int .u8).Q 5 w1 base (fun _ => True) v3 data') (h4 : Kd.bool.Q 4 w1 base (fun _ => True) v4 there')
    (hs : ∀ k, vr.ownBlock = some k → v3.ownBlock = some k → False) : BufV ((w1.setCell ⟨g, 3, none⟩ v3).setCell ⟨g, 4, none⟩ v4) base g next room vr v3 v4 ready data' there' where
  blk := blk_put (blk_put h.blk 3 _ rfl) 4 _ rfl
  ge := h.ge
  r := Kd.R_mono (Kd.R_far (p := ⟨g, 4, none⟩) (Kd.R_far (p := ⟨g, 3, none⟩) (Kd.R_types h.r h.blk (by decide)) (fun _ hk => hk.2) _) (fun _ hk => hk.2) _) (fun _ _ => trivial)
  d := Kd.Q_set (Kd.Q_set h3 h.blk (by decide) 3 v3) (blk_put h.blk 3 _ rfl) (by decide) 4 v4
  t := Kd.Q_set (Kd.Q_set h4 h.blk (by decide) 3 v3) (blk_put h.blk 3 _ rfl) (by decide) 4 v4
  sep := hs

theorem BufV.put_next {w1 : World} {next' : Int} (h : BufV w1 base g next room vr vd vt ready data there) : BufV (w1.setCell ⟨g, 0, none⟩ (.int .u32 next')) base g next' room vr vd vt ready data there where
  blk := blk_put h.blk 0 _ rfl
  ge := h.ge
  r := Kd.R_mono (Kd.R_far (p := ⟨g, 0, none⟩) (Kd.R_types h.r h.blk (by decide)) (fun _ hk => hk.2) _) (fun _ _ => trivial)
  d := Kd.Q_set h.d h.blk (by decide) 0 _
  t := Kd.Q_set h.t h.blk (by decide) 0 _
  sep := h.sep

/-- What a call on a buffer leaves: the buffer, told anew, and all other memory as it was. -/
def Left (w0 w w' : World) (base g : Nat) (vr vd vt : Value) (next' room : Int) (ready' data' : List Int) (there' : List Bool) : Prop :=
  ∃ vr' vd' vt', BufV w' base g next' room vr' vd' vt' ready' data' there' ∧ Kept w w' (Own g vr vd vt) ∧ (∀ k, Own g vr' vd' vt' k → Own g vr vd vt k ∨ w.heap.size ≤ k) ∧ Below base w0 w'

theorem kept_nil {W W1 : World} (h : W.grownBy W1 (Value.slice none 0 0).ownBlock) : Kept W W1 (fun _ => False) :=
  Kept.of_grown h (Kept.refl W _) (fun k hk => by cases hk)

theorem new_own {W : World} {v1 : Value} (h : v1.ownBlock = (Value.slice none 0 0).ownBlock ∨ ∃ b, v1.ownBlock = some b ∧ W.heap.size ≤ b) : ∀ k, v1.ownBlock = some k → W.heap.size ≤ k := by
  intro k hk
  rcases h with h | ⟨b, h, hb⟩
  · rw [h] at hk; cases hk
  · rw [h] at hk; obtain rfl := Option.some.inj hk; exact hb

def ReadPost (w0 w : World) (base g : Nat) (vr vd vt : Value) (next room : Int) (ready data : List Int) (there : List Bool) (n : Nat) (e : Ending) (w' : World) : Prop :=
  e = .returned (.tuple #[.string (strOfNums (ready.take n)), .int .i64 0]) ∧ Left w0 w w' base g vr vd vt next room (ready.drop n) data there

attribute [local go_sem] max2_int min2_int max_two min_two
set_option maxHeartbeats 4000000 in
set_option maxRecDepth 100000 in
theorem read_calls (w0 w : World) (most : Int) (n : Nat) (h : BufV w base g next room vr vd vt ready data there) (hb : Below base w0 w) (hbase : base ≤ w.heap.size) (h0 : 0 ≤ most) (h6 : ready.length ≤ 100000) (hn : n = min most.toNat ready.length) :
    Calls Try.prog 17 #[.pointer (some ⟨g, 0, none⟩), .int .i64 most] w (ReadPost w0 w base g vr vd vt next room ready data there n) := by
  obtain ⟨⟨c0, c1, c2, c3, c4⟩, f0, f1, f2, f3, f4⟩ := h.cells
  obtain ⟨A, c, rfl⟩ := Kd.R_slice h.r
  obtain ⟨hl, hc, hC⟩ := Kd.R_reads' h.r
  obtain ⟨i0, hi0, _, hsz0, _⟩ := info_parts info5
  have hm : (if (ready.length : Int) < most then (ready.length : Int) else most) = (n : Int) := by rw [hn]; split <;> omega
  have hm2 : min most (ready.length : Int) = (n : Int) := by rw [hn]; omega
  have k1 := cut_to (P := Try.prog) 47 5 .i64 Try.underlying47 hi0 A ready.length c (n : Int) (by omega) (by omega) hc
  have HH := Aside0.mk h
  have HT : Aside0 ((Kd.int .u8).C w A n (ready.take n)) := ⟨by have h_ := Kd.C_take (m := n) hC (by omega); rw [List.length_take, Nat.min_eq_left (by omega)] at h_; exact h_⟩
  have k2 := fun c' => Kd.C_string (P := Try.prog) (src := 47) (dst := 9) (e := 5) (c := c') Try.underlying47 Try.underlying5 Try.underlying9 HT.out
  have t1 : decide (most < 0) = false := decide_eq_false (by omega)
  have hnl : n ≤ ready.length := by omega
  have hni : (n : Int) ≤ (ready.length : Int) := by omega
  obtain ⟨A2, hA2⟩ : ∃ A2_, A2_ = (if c = n then A else A.map (·.add (n * 1))) := ⟨_, rfl⟩
  have HD : Aside0 ((Kd.int .u8).C w A2 (ready.length - n) (ready.drop n)) := ⟨by have h_ := Kd.C_drop (m := n) (c := c) hC hnl hc; rw [List.length_drop] at h_; rw [hA2]; exact h_⟩
  have k3 := cut_from (P := Try.prog) 47 5 .i64 Try.underlying47 hi0 1 hsz0 A ready.length c (n : Int) (by omega) hni
  rw [Int.toNat_natCast, ← hA2] at k3
  clear hA2
  have HB := Aside0.mk hb
  have HBS := Aside0.mk hbase
  clear hn hb hbase
  clear c0 c1 c3 c4 hi0 hsz0 h hC hl f0 f1 f3 f4
  go_enter Try.func17, Try.ntmps17
  go_wp2_with ((with_reducible refine gate_builtin (b := .append) (xs := #[.const (.slice none 0 0), .tmp 30]) rfl ?_); at_builtin; refine Kd.R_append_rows (Kd.int .u8) (Rr := (Kd.int .u8).K w) (w0 := w0) base rfl (.const (.slice none 0 0)) (.tmp 30) 47 5 (.int .u8 0) 1 rfl Try.underlying47 info5 rfl (by decide) (by omega) (.slice none 0 0) [] (ready.drop n) A2 (ready.length - n) (c - n) (fun _ => True) (fun _ => False) rfl (by rfl) ?aO ?aR ?aM (fun _ hk => hk.elim) (fun _ _ => trivial) ?aB ?aS ?aL ?_; (case aO => exact Kd.R_nil _ _ _ _ _); (case aR => exact HD.out); (case aM => exact fun x cs hk => hk); (case aB => exact HB.out); (case aS => exact HBS.out); (case aL => (simp; omega)); intro v1 w1 ha hb2 hgr hown; rw [List.nil_append] at ha; obtain ⟨Av, cv, ev⟩ := Kd.R_slice ha; rw [List.length_drop] at ev; subst ev; have HV := Aside0.mk ha; have HB2 := Aside0.mk hb2; have HG := Aside0.mk (kept_nil hgr); have HO := Aside0.mk (new_own hown); have H1 := Aside0.mk (HH.out.kept (kept_nil hgr) (fun _ _ h_ => h_)); obtain ⟨⟨_, _, d2, _, _⟩, _, _, e2, _, _⟩ := H1.out.cells; clear ha hb2 hgr hown)
  go_ret2
  refine ⟨rfl, _, vd, vt, H1.out.put_ready HV.out (fun k h1 h2 => ?_), ?_, ?_, HB2.out.setCell H1.out.ge _⟩
  · have h3 := HO.out k h1
    have h4 := Kd.Q_lt HH.out.d k h2
    omega
  · exact Kept.setCell (HG.out.mono (fun _ h_ => h_.elim)) (.inl (.inl rfl)) _
  · rintro k (rfl | hk | hk | hk)
    · exact .inl (.inl rfl)
    · exact .inr (HO.out k hk)
    · exact .inl (.inr (.inr (.inl hk)))
    · exact .inl (.inr (.inr (.inr hk)))
end
end Go.Proofs.Ytpanenghlpipkaa.Recv
