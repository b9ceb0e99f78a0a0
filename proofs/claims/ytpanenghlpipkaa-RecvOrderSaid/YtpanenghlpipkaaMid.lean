/- The middle of a call on a receive buffer: the fields as they stand in memory (f2, f3, f4), and the rows that are about to be written into them (vr, vd, vt). -/
import Derived.Test.YtpanenghlpipkaaMove
namespace Go.Proofs.Ytpanenghlpipkaa.Recv
open Go.RowKit Go.Proofs.Ytpanenghlpipkaa.PRecvOrder Go.Proofs.YtpanenghlpipkaaW.PrintWords Go.Proofs.YtpanenghlpipkaaW.PrintLast Go.Proofs.YtpanenghlpipkaaW.PrintMore
set_option linter.unusedVariables false
set_option linter.unusedSimpArgs false

section
variable {P : Program} {ops : Array Oper} {o : Oper} {a : Act} {Q' : Exit → Act → World → Prop} {Kc : Act → World → Prop} {α : Type}
/-- append of one element that stands in a block of its own, made at whatever time. -/
theorem Q_append_at (d : Kd α) {w0 W : World} (base : Nat) (hw : Region.wanted o (yielded ops a.tmps) = true) (s x : Operand) (t e : TypeId) (z : Value) (bytes : Nat)
    (ho : o.op = .call { callee := .builtin .append, args := #[s, x], argTypes := #[t, t] })
    (ht : P.underlying t = some (.slice e)) (hinfo : (P.info? e).map (fun i => (i.zero, i.size, i.bytes)) = some (some z, d.sz, bytes)) (hz : z.cells.size = d.sz) (hs0 : 0 < d.sz) (hb0 : 0 < bytes)
    (v : Value) (xs : List α) (p : α) (cs : List Value) (b : Nat) (t' : TypeId) (fr : Nat × Nat) (ok okp : Nat → Prop) (hs : a.eval s = v) (hx : a.eval x = .slice (some ⟨b, 0, none⟩) 1 1) (hb : W.heap[b]? = some (.cells cs.toArray t' fr))
    (hp : d.M W base okp p cs) (hokp : ∀ k, okp k → ok k ∧ some k ≠ v.ownBlock) (hfresh : ∀ k, W.heap.size ≤ k → ok k)
    (HO : d.Q e W base ok v xs) (HB : Below base w0 W) (hbase : base ≤ W.heap.size) (hl : (xs.length + 1) * bytes ≤ 140737488355328)
    (h : ∀ v1 w1, d.Q e w1 base ok v1 (xs ++ [p]) → Below base w0 w1 → W.grownBy w1 v.ownBlock → (v1.ownBlock = v.ownBlock ∨ ∃ b, v1.ownBlock = some b ∧ W.heap.size ≤ b) → Kc (a.put o.dst v1) w1) :
    if Region.wanted o (yielded ops a.tmps) = true then Oper.wp P o a W Kc Q' else Kc (a.put o.dst undef) W := by
  obtain ⟨h0, inner, hown, hr⟩ := HO
  obtain ⟨i0, hi, hzz⟩ := Option.map_eq_some_iff.1 hinfo
  simp only [Prod.mk.injEq] at hzz
  obtain ⟨hz0, hz1, hz2⟩ := hzz
  have hlen : xs.length + 1 ≤ 140737488355328 := Nat.le_trans (Nat.le_mul_of_pos_right _ hb0) hl
  have hcl := d.K_len (d.K_of_M hp)
  have hbase' : ∀ k, v.ownBlock = some k → base ≤ k := fun k hk => (q_typed hown k hk).1
  obtain ⟨v1, w1, hrun, hq1, hg1, hat⟩ := q_append (P := P) W base t o.type e i0 z d.sz bytes ht hi hz0 hz1 hz2 hz hs0 v xs.length inner hown ⟨b, 0, none⟩ 1 1 cs (by rw [hcl, Nat.one_mul])
    (by simpa using World.news_of_block (cs := cs.toArray) hb) (d.K_one (d.K_of_M hp)) (by omega) (by simp only [maxLen]; omega) hl hbase
  rw [if_pos hw]
  unfold Oper.wp execOp
  simp only [ho, resolve, invoke, builtin, Sem.run_bind, Sem.run_pure, Result.andThen_ok, List.map_toArray, List.map_cons, List.map_nil, hs, hx, hrun]
  exact h v1 w1 (Kd.Q_appended h0 hr hp hokp hfresh hq1 hg1 hat) (HB.grown hg1 hbase hbase') hg1 hat
end

/-- See this text's head. O: the blocks that the buffer owned when the call began (in w). -/
structure Mid (w0 w W : World) (base g : Nat) (O : Nat → Prop) (next room : Int) (f2 f3 f4 vr vd vt : Value) (ready data : List Int) (there : List Bool) : Prop where
  blk : W.heap[g]? = some (.cells #[.int .u32 next, .int .i64 room, f2, f3, f4] 51 (0, 0))
  ge : base ≤ g
  og : O g
  r : (Kd.int .u8).R 5 W base (fun _ => True) vr ready
  d : (Kd.int .u8).Q 5 W base (fun _ => True) vd data
  t : Kd.bool.Q 4 W base (fun _ => True) vt there
  sep : ∀ k, vr.ownBlock = some k → vd.ownBlock = some k → False
  kept : Kept w W O
  own : ∀ k, Own g vr vd vt k → O k ∨ w.heap.size ≤ k
  below : Below base w0 W
  size : base ≤ w.heap.size

section
variable {w0 w W W2 : World} {base g : Nat} {O : Nat → Prop} {next room : Int} {f2 f3 f4 vr vd vt : Value} {ready data : List Int} {there : List Bool}

theorem Mid.base_le (h : Mid w0 w W base g O next room f2 f3 f4 vr vd vt ready data there) : base ≤ W.heap.size := Nat.le_trans h.size h.kept.1

theorem Mid.start (h : BufV w base g next room vr vd vt ready data there) (hb : Below base w0 w) (hs : base ≤ w.heap.size) : Mid w0 w w base g (Own g vr vd vt) next room vr vd vt vr vd vt ready data there :=
  ⟨h.blk, h.ge, .inl rfl, h.r, h.d, h.t, h.sep, Kept.refl _ _, fun k hk => .inl hk, hb, hs⟩

theorem Mid.buf (h : Mid w0 w W base g O next room vr vd vt vr vd vt ready data there) : BufV W base g next room vr vd vt ready data there := ⟨h.blk, h.ge, h.r, h.d, h.t, h.sep⟩

theorem Mid.elder (h : Mid w0 w W base g O next room f2 f3 f4 vr vd vt ready data there) (hb : ∀ B, Below B W W2) : Mid w0 w W2 base g O next room f2 f3 f4 vr vd vt ready data there :=
  ⟨by have := (hb W.heap.size).block g (blk_lt h.blk); rw [this]; exact h.blk, h.ge, h.og, Kd.R_below h.r (hb _), Kd.Q_below h.d (hb _), Kd.Q_below h.t (hb _), h.sep, h.kept.below (hb _), h.own, h.below.trans (hb _), h.size⟩

theorem Mid.drew (h : Mid w0 w W base g O next room f2 f3 f4 vr vd vt ready data there) : Mid w0 w W.drew base g O next room f2 f3 f4 vr vd vt ready data there := h.elder (fun _ => below_drew1 (Below.refl _ _))
theorem Mid.drewN (h : Mid w0 w W base g O next room f2 f3 f4 vr vd vt ready data there) (n : Nat) : Mid w0 w (W.drewN n) base g O next room f2 f3 f4 vr vd vt ready data there := h.elder (fun _ => pw_below_drewN (Below.refl _ _) n)

theorem Mid.alloc (h : Mid w0 w W base g O next room f2 f3 f4 vr vd vt ready data there) (o : Obj) : Mid w0 w (W.alloc o) base g O next room f2 f3 f4 vr vd vt ready data there :=
  ⟨blk_alloc h.blk o, h.ge, h.og, Kd.R_alloc h.r o, Kd.Q_alloc h.d o, Kd.Q_alloc h.t o, h.sep, h.kept.alloc o, h.own, h.below.alloc h.base_le o, h.size⟩

theorem Mid.cells (h : Mid w0 w W base g O next room f2 f3 f4 vr vd vt ready data there) :
    (W.cell? ⟨g, 0, none⟩ = some (.int .u32 next) ∧ W.cell? ⟨g, 1, none⟩ = some (.int .i64 room) ∧ W.cell? ⟨g, 2, none⟩ = some f2 ∧ W.cell? ⟨g, 3, none⟩ = some f3 ∧ W.cell? ⟨g, 4, none⟩ = some f4) ∧
    (W.frozen? ⟨g, 0, none⟩ = false ∧ W.frozen? ⟨g, 1, none⟩ = false ∧ W.frozen? ⟨g, 2, none⟩ = false ∧ W.frozen? ⟨g, 3, none⟩ = false ∧ W.frozen? ⟨g, 4, none⟩ = false) :=
  ⟨⟨(blk_cell h.blk 0).trans rfl, (blk_cell h.blk 1).trans rfl, (blk_cell h.blk 2).trans rfl, (blk_cell h.blk 3).trans rfl, (blk_cell h.blk 4).trans rfl⟩,
   blk_frozen h.blk 0, blk_frozen h.blk 1, blk_frozen h.blk 2, blk_frozen h.blk 3, blk_frozen h.blk 4⟩

/-- The bytes have grown. -/
theorem Mid.grow_d {w1 : World} {v1 : Value} {data' : List Int} (h : Mid w0 w W base g O next room f2 f3 f4 vr vd vt ready data there) (hV : (Kd.int .u8).Q 5 w1 base (fun k => vr.ownBlock = some k → False) v1 data') (hgr : W.grownBy w1 vd.ownBlock) (hat : v1.ownBlock = vd.ownBlock ∨ ∃ b, v1.ownBlock = some b ∧ W.heap.size ≤ b) :
    Mid w0 w w1 base g O next room f2 f3 f4 vr v1 vt ready data' there where
  blk := blk_grown h.blk hgr (Kd.Q_ne h.d h.blk (by decide))
  ge := h.ge
  og := h.og
  r := Kd.R_mono (Kd.R_step (Kd.R_tight rfl h.r) (fun k hk hlt => hgr.block k hlt (fun e => h.sep k hk.symm e.symm))) (fun _ _ => trivial)
  d := Kd.Q_mono hV (fun _ _ => trivial)
  t := Kd.Q_over' h.t (Kd.Q_typed h.d) (by decide) hgr
  sep := fun k h1 h2 => hV.1 k h2 h1
  kept := Kept.of_grown hgr h.kept (fun k hk => h.own k (.inr (.inr (.inl hk))))
  own := by
    rintro k (hk | hk | hk | hk)
    · exact h.own k (.inl hk)
    · exact h.own k (.inr (.inl hk))
    · rcases hat with e | ⟨b, e, hb⟩
      · exact h.own k (.inr (.inr (.inl (e ▸ hk))))
      · rw [e] at hk; obtain rfl := Option.some.inj hk; exact .inr (Nat.le_trans h.kept.1 hb)
    · exact h.own k (.inr (.inr (.inr hk)))
  below := h.below.grown hgr h.base_le (Kd.Q_base h.d)
  size := h.size

/-- The marks have grown. -/
theorem Mid.grow_t {w1 : World} {v1 : Value} {there' : List Bool} (h : Mid w0 w W base g O next room f2 f3 f4 vr vd vt ready data there) (hV : Kd.bool.Q 4 w1 base (fun _ => True) v1 there') (hgr : W.grownBy w1 vt.ownBlock) (hat : v1.ownBlock = vt.ownBlock ∨ ∃ b, v1.ownBlock = some b ∧ W.heap.size ≤ b) :
    Mid w0 w w1 base g O next room f2 f3 f4 vr vd v1 ready data there' where
  blk := blk_grown h.blk hgr (Kd.Q_ne h.t h.blk (by decide))
  ge := h.ge
  og := h.og
  r := Kd.R_over' h.r (Kd.Q_typed h.t) (by decide) hgr
  d := Kd.Q_over' h.d (Kd.Q_typed h.t) (by decide) hgr
  t := hV
  sep := h.sep
  kept := Kept.of_grown hgr h.kept (fun k hk => h.own k (.inr (.inr (.inr hk))))
  own := by
    rintro k (hk | hk | hk | hk)
    · exact h.own k (.inl hk)
    · exact h.own k (.inr (.inl hk))
    · exact h.own k (.inr (.inr (.inl hk)))
    · rcases hat with e | ⟨b, e, hb⟩
      · exact h.own k (.inr (.inr (.inr (e ▸ hk))))
      · rw [e] at hk; obtain rfl := Option.some.inj hk; exact .inr (Nat.le_trans h.kept.1 hb)
  below := h.below.grown hgr h.base_le (Kd.Q_base h.t)
  size := h.size

theorem Mid.put3 (h : Mid w0 w W base g O next room f2 f3 f4 vr vd vt ready data there) (u : Value) : Mid w0 w (W.setCell ⟨g, 3, none⟩ u) base g O next room f2 u f4 vr vd vt ready data there where
  blk := blk_put h.blk 3 _ rfl
  ge := h.ge
  og := h.og
  r := Kd.R_mono (Kd.R_far (p := ⟨g, 3, none⟩) (Kd.R_types h.r h.blk (by decide)) (fun _ hk => hk.2) _) (fun _ _ => trivial)
  d := Kd.Q_set h.d h.blk (by decide) 3 u
  t := Kd.Q_set h.t h.blk (by decide) 3 u
  sep := h.sep
  kept := Kept.setCell (p := ⟨g, 3, none⟩) h.kept (Or.inl h.og) u
  own := h.own
  below := h.below.setCell h.ge _
  size := h.size

theorem Mid.put4 (h : Mid w0 w W base g O next room f2 f3 f4 vr vd vt ready data there) (u : Value) : Mid w0 w (W.setCell ⟨g, 4, none⟩ u) base g O next room f2 f3 u vr vd vt ready data there where
  blk := blk_put h.blk 4 _ rfl
  ge := h.ge
  og := h.og
  r := Kd.R_mono (Kd.R_far (p := ⟨g, 4, none⟩) (Kd.R_types h.r h.blk (by decide)) (fun _ hk => hk.2) _) (fun _ _ => trivial)
  d := Kd.Q_set h.d h.blk (by decide) 4 u
  t := Kd.Q_set h.t h.blk (by decide) 4 u
  sep := h.sep
  kept := Kept.setCell (p := ⟨g, 4, none⟩) h.kept (Or.inl h.og) u
  own := h.own
  below := h.below.setCell h.ge _
  size := h.size

/-- A byte is written. -/
theorem Mid.byte {gd o n cap : Nat} (h : Mid w0 w W base g O next room f2 f3 f4 vr (.slice (some ⟨gd, o, none⟩) n cap) vt ready data there) (i : Nat) (hi : i < n) (x : Int) :
    Mid w0 w (W.setCell ⟨gd, o + i, none⟩ (.int .u8 x)) base g O next room f2 f3 f4 vr (.slice (some ⟨gd, o, none⟩) n cap) vt ready (data.set i x) there := by
  have hp := Kd.Q_putg (Kd.Q_mono (ok' := fun k => vr.ownBlock = some k → False) (Kd.Q_tight rfl h.d) (fun k hk e => h.sep k e hk.symm)) (i : Int) (by omega) (by omega) x
  rw [Int.toNat_natCast] at hp
  exact h.grow_d hp.1 hp.2 (.inl rfl)

/-- A mark is written. -/
theorem Mid.mark {gt o n cap : Nat} (h : Mid w0 w W base g O next room f2 f3 f4 vr vd (.slice (some ⟨gt, o, none⟩) n cap) ready data there) (i : Nat) (hi : i < n) (x : Bool) :
    Mid w0 w (W.setCell ⟨gt, o + i, none⟩ (.bool x)) base g O next room f2 f3 f4 vr vd (.slice (some ⟨gt, o, none⟩) n cap) ready data (there.set i x) := by
  have hp := Kd.Q_putg h.t (i : Int) (by omega) (by omega) x
  rw [Int.toNat_natCast] at hp
  exact h.grow_t hp.1 hp.2 (.inl rfl)

/-- What the call leaves. -/
theorem Mid.left {vr0 vd0 vt0 : Value} (h : Mid w0 w W base g (Own g vr0 vd0 vt0) next room vr vd vt vr vd vt ready data there) : Left w0 w W base g vr0 vd0 vt0 next room ready data there :=
  ⟨vr, vd, vt, h.buf, h.kept, h.own, h.below⟩
end
end Go.Proofs.Ytpanenghlpipkaa.Recv
