/- The walk of (*recv.Buffer).In. -/
import Derived.Test.YtpanenghlpipkaaMid
import Derived.Deep.RegionLaw
import Derived.RegionTactic
import Derived.BigRegion
namespace Go.Proofs.Ytpanenghlpipkaa.Recv
open Go.RowKit Go.Proofs.Ytpanenghlpipkaa.PRecvOrder Go.Proofs.YtpanenghlpipkaaW.PrintWords Go.Proofs.YtpanenghlpipkaaW.PrintLast Go.Proofs.YtpanenghlpipkaaW.PrintMore
set_option linter.unusedVariables false
set_option linter.unusedSimpArgs false

/-- l, filled up with d to n elements. -/
def pad {α : Type} (d : α) (n : Nat) (l : List α) : List α := l ++ List.replicate (n - l.length) d
theorem pad_short {α : Type} (d : α) (n : Nat) (l : List α) (h : l.length < n) : pad d n (l ++ [d]) = pad d n l := by
  unfold pad
  rw [List.append_assoc, List.length_append, List.length_singleton, show n - l.length = (n - (l.length + 1)) + 1 by omega, List.replicate_succ]
  rfl
theorem pad_long {α : Type} (d : α) (n : Nat) (l : List α) (h : n ≤ l.length) : pad d n l = l := by
  unfold pad
  rw [show n - l.length = 0 by omega]
  simp
theorem pad_length {α : Type} (d : α) (n : Nat) (l : List α) : (pad d n l).length = max l.length n := by
  unfold pad
  rw [List.length_append, List.length_replicate]
  omega

/-- The queues (the bytes, the marks) and how many bytes were stored. -/
abbrev Qs := List Int × List Bool × Nat
/-- A byte c for the place p arrives; W places can be filled. -/
def store1 (W p : Int) (c : Int) (q : Qs) : Qs :=
  if p < 0 ∨ W ≤ p then q else
  if (pad false (p.toNat + 1) q.2.1).getD p.toNat false = true then (pad 0 (p.toNat + 1) q.1, pad false (p.toNat + 1) q.2.1, q.2.2)
  else ((pad 0 (p.toNat + 1) q.1).set p.toNat c, (pad false (p.toNat + 1) q.2.1).set p.toNat true, q.2.2 + 1)
def storeAll (W : Int) : Int → List Int → Qs → Qs
  | _, [], q => q
  | p, c :: cs, q => storeAll W (p + 1) cs (store1 W p c q)
/-- The queues are as long as each other, and no longer than W. -/
def Fits (W : Int) (q : Qs) : Prop := q.1.length = q.2.1.length ∧ (q.1.length : Int) ≤ W
theorem Fits.store1 {W p c : Int} {q : Qs} (h : Fits W q) : Fits W (store1 W p c q) := by
  unfold Recv.store1
  split
  · exact h
  · obtain ⟨h1, h2⟩ := h
    split <;> (constructor <;> simp only [List.length_set, pad_length] <;> omega)

/-- The bytes of a string. -/
def bytesOf (s : ByteArray) : List Int := s.data.toList.map (fun b => (b.toNat : Int))

theorem q_any {α : Type} {d : Kd α} {e base : Nat} {ok : Nat → Prop} {W : World} {v : Value} {xs : List α} (h : d.Q e W base ok v xs) : ∃ A n c, v = .slice A n c := by
  obtain ⟨A, c, h, _⟩ := Kd.Q_slice h
  exact ⟨A, _, c, h⟩
theorem new_blk (w : World) (o : Obj) : (w.alloc o).heap[w.heap.size]? = some o := heap_alloc_new w o
theorem bytesOf_length (s : ByteArray) : (bytesOf s).length = s.size := by unfold bytesOf; rw [List.length_map, Array.length_toList]; rfl
theorem storeAll_step (W off : Int) (s : ByteArray) (i : Nat) (hi : i < s.size) (q : Qs) :
    storeAll W (off + (i : Int)) ((bytesOf s).drop i) q = storeAll W (off + ((i + 1 : Nat) : Int)) ((bytesOf s).drop (i + 1)) (store1 W (off + (i : Int)) (s[i].toNat : Int) q) := by
  have h1 : i < (bytesOf s).length := by rw [bytesOf_length]; exact hi
  rw [List.drop_eq_getElem_cons h1, storeAll]
  have h2 : (bytesOf s)[i] = (s[i].toNat : Int) := by simp only [bytesOf, List.getElem_map]; rfl
  rw [h2, show off + (i : Int) + 1 = off + ((i + 1 : Nat) : Int) by omega]

def dif (x y : Int) : Int := wrap64 (wrap32 ((x - y) % 4294967296))
theorem dif_bound (x y : Int) : -2147483648 ≤ dif x y ∧ dif x y < 2147483648 := by
  simp only [dif, wrap64, wrap32]
  omega
set_option maxRecDepth 100000 in
theorem dif_calls (a0 a1 : Int) (w : World) : Calls Try.prog 14 #[.int .u32 a0, .int .u32 a1] w fun e w' => e = .returned (.int .i64 (dif a0 a1)) ∧ w' = w := by
  go_enter Try.func14, Try.ntmps14
  go_wp2
  go_ret
  exact ⟨rfl, rfl⟩

theorem Mid.marked {w0 w W : World} {base g : Nat} {O : Nat → Prop} {next room : Int} {f2 f3 f4 vr vd : Value} {ready data : List Int} {there : List Bool} {At : Option Addr} {ct : Nat} (h : Mid w0 w W base g O next room f2 f3 f4 vr vd (.slice At there.length ct) ready data there) (i : Nat) (hi : i < there.length) :
    ∃ gt o, At = some ⟨gt, o, none⟩ ∧ W.cell? ⟨gt, o + i, none⟩ = some (.bool (there.getD i false)) ∧ W.frozen? ⟨gt, o + i, none⟩ = false ∧ gt ≠ g := by
  obtain ⟨gt, o, cap, e, _, _, cells, hc⟩ := Kd.Q_form h.t (by omega)
  injection e with e1 e2 e3
  subst e1
  have h2 := Kd.Q_cell false h.t (i : Int) (by omega) (by omega)
  rw [Int.toNat_natCast] at h2
  exact ⟨gt, o, rfl, h2.1, h2.2, blk_ne hc h.blk (by decide)⟩
theorem Mid.byted {w0 w W : World} {base g : Nat} {O : Nat → Prop} {next room : Int} {f2 f3 f4 vr vt : Value} {ready data : List Int} {there : List Bool} {Ad : Option Addr} {cd : Nat} (h : Mid w0 w W base g O next room f2 f3 f4 vr (.slice Ad data.length cd) vt ready data there) (i : Nat) (hi : i < data.length) :
    ∃ gd o, Ad = some ⟨gd, o, none⟩ ∧ W.cell? ⟨gd, o + i, none⟩ = some (.int .u8 (data.getD i 0)) ∧ W.frozen? ⟨gd, o + i, none⟩ = false ∧ gd ≠ g ∧ ∃ cells, W.heap[gd]? = some (.cells cells 5 (0, 0)) := by
  obtain ⟨gt, o, cap, e, _, _, cells, hc⟩ := Kd.Q_form h.d (by omega)
  injection e with e1 e2 e3
  subst e1
  have h2 := Kd.Q_cell (0 : Int) h.d (i : Int) (by omega) (by omega)
  rw [Int.toNat_natCast] at h2
  exact ⟨gt, o, rfl, h2.1, h2.2, blk_ne hc h.blk (by decide), cells, hc⟩

section
variable {base g : Nat} {next room : Int} {vr vd vt : Value} {ready data : List Int} {there : List Bool}
theorem Mid.after {w0 w W w' : World} {f2 f3 f4 vr0 vd0 vt0 : Value} {n2 : Int} {r2 d2 : List Int} {t2 : List Bool} {r1 d1 : List Int} {t1 : List Bool} (hM : Mid w0 w W base g (Own g vr0 vd0 vt0) next room f2 f3 f4 vr vd vt r1 d1 t1) (hL : Left w0 W w' base g vr vd vt n2 room r2 d2 t2) :
    Left w0 w w' base g vr0 vd0 vt0 n2 room r2 d2 t2 := by
  obtain ⟨vr', vd', vt', hb, hk, ho, hbel⟩ := hL
  exact ⟨vr', vd', vt', hb, hM.kept.then_ hk (fun k hk => hM.own k hk), fun k hk => (ho k hk).elim (hM.own k) (fun h => .inr (Nat.le_trans hM.kept.1 h)), hbel⟩

/-- What In does: q is what the queues hold before the leading bytes are moved. -/
def InPost (w0 w : World) (base g : Nat) (vr vd vt : Value) (next room : Int) (ready data : List Int) (there : List Bool) (from_ : Int) (s : ByteArray) (e : Ending) (w' : World) : Prop :=
  e = .returned (.tuple #[.int .i64 ((storeAll (room - ready.length) (dif from_ next) (bytesOf s) (data, there, 0)).2.2 : Int), .int .i64 0]) ∧
  Left w0 w w' base g vr vd vt ((next + lead (storeAll (room - ready.length) (dif from_ next) (bytesOf s) (data, there, 0)).2.1) % 4294967296) room
    (ready ++ (storeAll (room - ready.length) (dif from_ next) (bytesOf s) (data, there, 0)).1.take (lead (storeAll (room - ready.length) (dif from_ next) (bytesOf s) (data, there, 0)).2.1))
    ((storeAll (room - ready.length) (dif from_ next) (bytesOf s) (data, there, 0)).1.drop (lead (storeAll (room - ready.length) (dif from_ next) (bytesOf s) (data, there, 0)).2.1))
    ((storeAll (room - ready.length) (dif from_ next) (bytesOf s) (data, there, 0)).2.1.drop (lead (storeAll (room - ready.length) (dif from_ next) (bytesOf s) (data, there, 0)).2.1))

set_option maxHeartbeats 4000000 in
set_option maxRecDepth 100000 in
theorem in_calls (w0 w : World) (from_ : Int) (s : ByteArray) (h : BufV w base g next room vr vd vt ready data there) (hb : Below base w0 w) (hbase : base ≤ w.heap.size) (h1 : s.size ≤ 4096) (hr : 1 ≤ room ∧ room ≤ 65535) (hfit : Fits (room - ready.length) (data, there, 0)) :
    Calls Try.prog 10 #[.pointer (some ⟨g, 0, none⟩), .int .u32 from_, .string s] w (InPost w0 w base g vr vd vt next room ready data there from_ s) := by
  obtain ⟨⟨c0, c1, c2, c3, c4⟩, f0, f1, f2, f3, f4⟩ := h.cells
  have HH := Aside0.mk (Mid.start h hb hbase)
  obtain ⟨off, hoff⟩ : ∃ off_, off_ = dif from_ next := ⟨_, rfl⟩
  have hofb := dif_bound from_ next
  rw [← hoff] at hofb
  obtain ⟨W, hW⟩ : ∃ W_, W_ = room - (ready.length : Int) := ⟨_, rfl⟩
  rw [← hW] at hfit
  have HF := Aside0.mk hfit
  have HW := Aside0.mk hW
  have HR := Aside0.mk hr
  have hWb : W ≤ 65535 := by omega
  have t1 : decide (4096 < (s.size : Int)) = false := decide_eq_false (by omega)
  have t2 : decide (4096 < s.size) = false := decide_eq_false (by omega)
  have c5 : Calls Try.prog 14 #[.int .u32 from_, .int .u32 next] w fun e w' => e = .returned (.int .i64 off) ∧ w' = w := by rw [hoff]; exact dif_calls _ _ _
  have HC5 := Aside0.mk c5
  have HOF := Aside0.mk hoff
  clear c5 hoff c1 c2 c3 c4 f1 f2 f3 f4 hb hbase hfit hW hr h
  go_enter Try.func10, Try.ntmps10
  go_wp2_with (go_at_call 14; refine HC5.out.mono ?_; rintro e w' ⟨rfl, hw_⟩; obtain rfl := hw_.symm; clear hw_)
  clear c0 f0
  go_loopg [23, 9] (s.size) (fun kq v23 v9 w' => ∃ (i : Nat) (vd1 vt1 : Value) (q : Qs), v23 = .int .i64 i ∧ v9 = .int .i64 (q.2.2 : Int) ∧ Aside0 (i + kq = s.size) ∧ Aside0 (q.2.2 ≤ i) ∧ Aside0 (Fits W q) ∧ Aside0 (storeAll W (off + i) ((bytesOf s).drop i) q = storeAll W off (bytesOf s) (data, there, 0)) ∧ Aside0 (Mid w0 w w' base g (Own g vr vd vt) next room vr vd1 vt1 vr vd1 vt1 ready q.1 q.2.1))
  case atStart => exact ⟨0, vd, vt, (data, there, 0), rfl, rfl, ⟨by omega⟩, ⟨Nat.le_refl _⟩, HF, ⟨by simp⟩, HH⟩
  case round =>
    obtain ⟨i, vd1, vt1, q, rfl, rfl, HI, HM, HQ, HA, HD⟩ := hrel
    cases gk with
    | zero =>
      have t3 : decide ((i : Int) < (s.size : Int)) = false := decide_eq_false (by have := HI.out; omega)
      have t4 : decide (i < s.size) = false := decide_eq_false (by have := HI.out; omega)
      have c6 := move_calls w0 wr HD.out.buf HD.out.below HD.out.base_le HQ.out.1 (by have := HQ.out.2; have := HR.out; have := HW.out; omega)
      have HC6 := Aside0.mk c6
      clear c6
      go_wp2_with (go_at_call 18; refine HC6.out.mono ?_; rintro e w' ⟨rfl, hl_⟩; have HL := Aside0.mk hl_; clear hl_)
      go_ret2
      have hq : q = storeAll (room - ready.length) (dif from_ next) (bytesOf s) (data, there, 0) := by
        have := HA.out
        rw [List.drop_eq_nil_of_le (by rw [bytesOf_length]; have := HI.out; omega), storeAll] at this
        rw [← HW.out, ← HOF.out]
        exact this
      refine ⟨?_, ?_⟩
      · rw [← hq]; first | rfl | done
      · rw [← hq]
        exact HD.out.after HL.out
    | succ k1 =>
      have t3 : decide ((i : Int) < (s.size : Int)) = true := decide_eq_true (by have := HI.out; omega)
      have t4 : decide (i < s.size) = true := decide_eq_true (by have := HI.out; omega)
      have HIL : Aside0 (i < s.size) := ⟨by have := HI.out; omega⟩
      obtain ⟨p, hp⟩ : ∃ p_, p_ = off + (i : Int) := ⟨_, rfl⟩
      have t5 : wrap64 (off + (i : Int)) = p := by rw [hp]; simp only [wrap64]; have := HI.out; omega
      have t7 : wrap64 ((i : Int) + 1) = ((i + 1 : Nat) : Int) := by simp only [wrap64]; have := HI.out; omega
      have HP := Aside0.mk hp
      clear hp
      by_cases hp0 : p < 0
      · have t6 : decide (p < 0) = true := decide_eq_true hp0
        have HP0 := Aside0.mk hp0
        clear hp0
        have HB := HA.out
        rw [storeAll_step W off s i HIL.out q, ← HP.out, store1, if_pos (.inl HP0.out)] at HB
        have HA2 := Aside0.mk HB
        clear HB
        go_wp2
        go_roundg k1
        case measure => have := HI.out; omega
        case rel => exact ⟨i + 1, vd1, vt1, q, by first | rw [t7] | rfl | simp, rfl, ⟨by have := HI.out; omega⟩, ⟨by have := HM.out; omega⟩, HQ, HA2, HD⟩
      · have t6 : decide (p < 0) = false := decide_eq_false hp0
        have hwin := window_calls wr HD.out.buf ⟨by have := HR.out; omega, HR.out.2⟩ (by have := HQ.out.2; have := HR.out; have := HW.out; omega)
        rw [← HW.out] at hwin
        have HWIN := Aside0.mk hwin
        clear hwin
        by_cases hp1 : W ≤ p
        · have t8 : decide (W ≤ p) = true := decide_eq_true hp1
          have HB := HA.out
          rw [storeAll_step W off s i HIL.out q, ← HP.out, store1, if_pos (.inr hp1)] at HB
          have HA2 := Aside0.mk HB
          clear HB hp0 hp1
          go_wp2_with (go_at_call 16; refine HWIN.out.mono ?_; rintro e w2 ⟨rfl, nd, hnd⟩; have hm2 := HD.out.drewN nd; rw [← hnd] at hm2; have HD2 := Aside0.mk hm2; clear hnd hm2)
          go_roundg k1
          case measure => have := HI.out; omega
          case rel => exact ⟨i + 1, vd1, vt1, q, by first | rw [t7] | rfl | simp, rfl, ⟨by have := HI.out; omega⟩, ⟨by have := HM.out; omega⟩, HQ, HA2, HD2⟩
        · have t8 : decide (W ≤ p) = false := decide_eq_false hp1
          obtain ⟨k, rfl⟩ : ∃ k : Nat, p = k := ⟨p.toNat, by omega⟩
          have HK := Aside0.mk (show (k : Int) < W by omega)
          clear hp0 hp1
          go_wp2_with (go_at_call 16; refine HWIN.out.mono ?_; rintro e w2 ⟨rfl, nd, hnd⟩; have hm2 := HD.out.drewN nd; rw [← hnd] at hm2; have HD2 := Aside0.mk hm2; clear hnd hm2)
          go_loopg [37] (k + 1 - q.1.length) (fun kq v37 w' => ∃ (vd2 vt2 : Value) (d2 : List Int) (t2 : List Bool), Aside0 (kq = k + 1 - d2.length) ∧ Aside0 (Fits W (d2, t2, 0)) ∧ Aside0 (pad 0 (k + 1) d2 = pad 0 (k + 1) q.1 ∧ pad false (k + 1) t2 = pad false (k + 1) q.2.1) ∧ Aside0 (Mid w0 w w' base g (Own g vr vd vt) next room vr vd2 vt2 vr vd2 vt2 ready d2 t2))
          case atStart => exact ⟨vd1, vt1, q.1, q.2.1, ⟨rfl⟩, ⟨HQ.out.1, HQ.out.2⟩, ⟨rfl, rfl⟩, HD2⟩
          case round =>
            clear HD HD2
            obtain ⟨vd2, vt2, d2, t2, HJ, HE, HPD, HD⟩ := hrel
            obtain ⟨Ad, cd, rfl, hcd⟩ := Kd.Q_slice HD.out.d
            obtain ⟨At, ct, rfl, hct⟩ := Kd.Q_slice HD.out.t
            obtain ⟨⟨c0, c1, c2, c3, c4⟩, f0, f1, f2, f3, f4⟩ := HD.out.cells
            cases gk with
            | zero =>
              have t9 : decide ((d2.length : Int) ≤ (k : Int)) = false := decide_eq_false (by have := HJ.out; omega)
              have t10 : decide (d2.length ≤ k) = false := decide_eq_false (by have := HJ.out; omega)
              have hkd : k < d2.length := by have := HJ.out; omega
              have hkt : k < t2.length := by have := HE.out.1; simp only [] at this; omega
              have e1 : pad 0 (k + 1) q.1 = d2 := by rw [← HPD.out.1, pad_long 0 (k + 1) d2 hkd]
              have e2 : pad false (k + 1) q.2.1 = t2 := by rw [← HPD.out.2, pad_long false (k + 1) t2 hkt]
              obtain ⟨gd, od, eA, n1, n2, n3, cells, n4⟩ := HD.out.byted k hkd
              subst eA
              obtain ⟨gt, ot, eA, m1, m2, m3⟩ := HD.out.marked k hkt
              subst eA
              have hne : gd ≠ gt := by
                rintro rfl
                obtain ⟨_, cells', n5⟩ := q_own HD.out.t (k := gd) rfl
                rw [n4] at n5
                injection n5 with n5
                injection n5 with _ n5
                exact absurd n5 (by decide)
              have hne2 : gt ≠ gd := fun e => hne e.symm
              have t11 : (0 : Int) ≤ (k : Int) := by omega
              have t12 : (k : Int) < (d2.length : Int) := by omega
              have t13 : (k : Int) < (t2.length : Int) := by omega
              have HB := HA.out
              rw [storeAll_step W off s i HIL.out q, ← HP.out, store1, if_neg (by have := HK.out; omega), Int.toNat_natCast, e1, e2] at HB
              clear n4 e1 e2
              cases hm : t2.getD k false with
              | true =>
                rw [hm] at m1 HB
                rw [if_pos rfl] at HB
                have HA2 := Aside0.mk HB
                clear HB hm
                go_wp2
                go_roundg k1
                case measure => have := HI.out; omega
                case rel => exact ⟨i + 1, _, _, (d2, t2, q.2.2), by first | rw [t7] | rfl | simp, rfl, ⟨by have := HI.out; omega⟩, ⟨by have := HM.out; simp only []; omega⟩, ⟨HE.out.1, HE.out.2⟩, HA2, HD⟩
              | false =>
                rw [hm] at m1 HB
                rw [if_neg (by decide)] at HB
                have HA2 := Aside0.mk HB
                clear HB hm
                have t14 : i < s.size := HIL.out
                go_wp2
                go_region
                have HD2 := Aside0.mk ((HD.out.byte k hkd (s[i].toNat : Int)).mark k hkt true).drew
                have t15 : wrap64 ((q.2.2 : Int) + 1) = ((q.2.2 + 1 : Nat) : Int) := by simp only [wrap64]; have := HM.out; have := HIL.out; omega
                generalize ((wr.setCell ⟨gd, od + k, none⟩ (.int .u8 (s[i].toNat : Int))).setCell ⟨gt, ot + k, none⟩ (.bool true)).drew = w3 at HD2 ⊢
                have HE2 : Aside0 (Fits W (d2.set k (s[i].toNat : Int), t2.set k true, q.2.2 + 1)) := ⟨by have h1 := HE.out; constructor <;> simp only [List.length_set] <;> first | exact h1.1 | exact h1.2⟩
                go_wp2
                go_roundg k1
                case measure => have := HI.out; omega
                case rel => exact ⟨i + 1, _, _, (d2.set k (s[i].toNat : Int), t2.set k true, q.2.2 + 1), by first | rw [t7] | rfl | simp, by first | rw [t15] | rfl | simp, ⟨by have := HI.out; omega⟩, ⟨by have := HM.out; simp only []; omega⟩, HE2, HA2, HD2⟩
            | succ k2 =>
              have t9 : decide ((d2.length : Int) ≤ (k : Int)) = true := decide_eq_true (by have := HJ.out; omega)
              have t10 : decide (d2.length ≤ k) = true := decide_eq_true (by have := HJ.out; omega)
              have HN7 : Aside0 ((d2.length + 1) * 1 ≤ 140737488355328) := ⟨by have := HE.out.2; simp only [] at this; omega⟩
              have HN13 : Aside0 ((t2.length + 1) * 1 ≤ 140737488355328) := ⟨by have := HE.out.2; have := HE.out.1; simp only [] at *; omega⟩
              have HJ2 : Aside0 (k2 = k + 1 - (d2 ++ [0]).length) := ⟨by rw [List.length_append, List.length_singleton]; have := HJ.out; omega⟩
              have HE2 : Aside0 (Fits W (d2 ++ [0], t2 ++ [false], 0)) := ⟨by have h1 := HE.out.1; have h2 := HK.out; have h3 := HJ.out; constructor <;> simp only [List.length_append, List.length_singleton] at * <;> omega⟩
              have HPD2 : Aside0 (pad 0 (k + 1) (d2 ++ [0]) = pad 0 (k + 1) q.1 ∧ pad false (k + 1) (t2 ++ [false]) = pad false (k + 1) q.2.1) := ⟨by have h1 := HE.out.1; have h3 := HJ.out; simp only [] at h1; rw [pad_short 0 (k + 1) d2 (by omega), pad_short false (k + 1) t2 (by omega)]; exact HPD.out⟩
              go_wp2
              have HDr := Aside0.mk HD.out.drew
              clear c0 c1 c2 c3 c4 f0 f1 f2 f3 f4
              refine start_ (n := 20) (S := fun w' => w'.cell? ⟨g, 3, none⟩ = some (.slice Ad d2.length cd) ∧ w'.cell? ⟨g, 4, none⟩ = some (.slice At t2.length ct)) (ds := [16, 19]) #[false, false, false, false, false, false, false, false, false, false, false, false, false, false, false, false, false, false, false, false] (by kernel_rfl) rfl rfl ⟨(blk_cell HDr.out.blk 3).trans rfl, (blk_cell HDr.out.blk 4).trans rfl⟩ (fun hHeld => ?_)
              generalize wr.drew = wd at HDr hHeld ⊢
              refine pure_ (i := 0) (N := some 44) (v := ?_) (a' := ?_) #[true, false, false, false, false, false, false, false, false, false, false, false, false, false, false, false, false, false, false, false] rfl rfl (by kernel_rfl) (fun _ _ _ h => h) (Or.inl ⟨by rfl, ?_⟩) ?_ ?_
              rotate_left
              · intro w'
                go_simp
                with_reducible rfl
              rotate_left
              · simp only [Act.put, List.setIfInBounds_toArray, List.set_cons_zero, List.set_cons_succ, i64_w, i32_w]
                rfl
              refine pure_ (i := 1) (N := some 45) (v := ?_) (a' := ?_) #[true, true, false, false, false, false, false, false, false, false, false, false, false, false, false, false, false, false, false, false] rfl rfl (by kernel_rfl) (fun _ _ _ h => h) (Or.inl ⟨by rfl, ?_⟩) ?_ ?_
              rotate_left
              · intro w'
                go_simp
                with_reducible rfl
              rotate_left
              · simp only [Act.put, List.setIfInBounds_toArray, List.set_cons_zero, List.set_cons_succ, i64_w, i32_w]
                rfl
              refine pure_ (i := 2) (N := some 46) (v := ?_) (a' := ?_) #[true, true, true, false, false, false, false, false, false, false, false, false, false, false, false, false, false, false, false, false] rfl rfl (by kernel_rfl) (fun _ _ _ h => h) (Or.inl ⟨by rfl, ?_⟩) ?_ ?_
              rotate_left
              · intro w'
                go_simp
                with_reducible rfl
              rotate_left
              · simp only [Act.put, List.setIfInBounds_toArray, List.set_cons_zero, List.set_cons_succ, i64_w, i32_w]
                rfl
              refine pure_ (i := 3) (N := some 47) (v := ?_) (a' := ?_) #[true, true, true, true, false, false, false, false, false, false, false, false, false, false, false, false, false, false, false, false] rfl rfl (by kernel_rfl) (fun _ _ _ h => h) (Or.inl ⟨by rfl, ?_⟩) ?_ ?_
              rotate_left
              · intro w'
                go_simp
                with_reducible rfl
              rotate_left
              · simp only [Act.put, List.setIfInBounds_toArray, List.set_cons_zero, List.set_cons_succ, i64_w, i32_w]
                rfl
              refine pure_ (i := 4) (N := some 48) (v := ?_) (a' := ?_) #[true, true, true, true, true, false, false, false, false, false, false, false, false, false, false, false, false, false, false, false] rfl rfl (by kernel_rfl) (fun _ _ _ h => h) (Or.inl ⟨by rfl, ?_⟩) ?_ ?_
              rotate_left
              · intro w'
                go_simp
                with_reducible rfl
              rotate_left
              · simp only [Act.put, List.setIfInBounds_toArray, List.set_cons_zero, List.set_cons_succ, i64_w, i32_w]
                rfl
              refine pure_ (i := 8) (N := some 52) (v := ?_) (a' := ?_) #[true, true, true, true, true, false, false, false, true, false, false, false, false, false, false, false, false, false, false, false] rfl rfl (by kernel_rfl) (fun _ _ _ h => h) (Or.inl ⟨by rfl, ?_⟩) ?_ ?_
              rotate_left
              · intro w'
                go_simp
                with_reducible rfl
              rotate_left
              · simp only [Act.put, List.setIfInBounds_toArray, List.set_cons_zero, List.set_cons_succ, i64_w, i32_w]
                rfl
              refine pure_ (i := 9) (N := some 53) (v := ?_) (a' := ?_) #[true, true, true, true, true, false, false, false, true, true, false, false, false, false, false, false, false, false, false, false] rfl rfl (by kernel_rfl) (fun _ _ _ h => h) (Or.inl ⟨by rfl, ?_⟩) ?_ ?_
              rotate_left
              · intro w'
                go_simp
                with_reducible rfl
              rotate_left
              · simp only [Act.put, List.setIfInBounds_toArray, List.set_cons_zero, List.set_cons_succ, i64_w, i32_w]
                rfl
              refine pure_ (i := 10) (N := some 54) (v := ?_) (a' := ?_) #[true, true, true, true, true, false, false, false, true, true, true, false, false, false, false, false, false, false, false, false] rfl rfl (by kernel_rfl) (fun _ _ _ h => h) (Or.inl ⟨by rfl, ?_⟩) ?_ ?_
              rotate_left
              · intro w'
                go_simp
                with_reducible rfl
              rotate_left
              · simp only [Act.put, List.setIfInBounds_toArray, List.set_cons_zero, List.set_cons_succ, i64_w, i32_w]
                rfl
              refine take_ (i := 5) (N := some 49) (v := ?_) (a' := ?_) #[true, true, true, true, true, true, false, false, true, true, true, false, false, false, false, false, false, false, false, false] rfl rfl (by kernel_rfl) (fun _ _ _ h => h) (Or.inl ⟨by rfl, ?_⟩) hHeld ?_ ?_
              rotate_left
              · rintro w' ⟨s0, s1⟩
                go_simp
                with_reducible rfl
              rotate_left
              · simp only [Act.put, List.setIfInBounds_toArray, List.set_cons_zero, List.set_cons_succ, i64_w, i32_w]
                rfl
              refine take_ (i := 11) (N := some 55) (v := ?_) (a' := ?_) #[true, true, true, true, true, true, false, false, true, true, true, true, false, false, false, false, false, false, false, false] rfl rfl (by kernel_rfl) (fun _ _ _ h => h) (Or.inl ⟨by rfl, ?_⟩) hHeld ?_ ?_
              rotate_left
              · rintro w' ⟨s0, s1⟩
                go_simp
                with_reducible rfl
              rotate_left
              · simp only [Act.put, List.setIfInBounds_toArray, List.set_cons_zero, List.set_cons_succ, i64_w, i32_w]
                rfl
              refine two_ (i := 6) (j := 12) (Ni := some 50) (Nj := some 56) #[true, true, true, true, true, true, true, false, true, true, true, true, false, false, false, false, false, false, false, false] #[true, true, true, true, true, true, false, false, true, true, true, true, true, false, false, false, false, false, false, false] rfl rfl rfl rfl (by kernel_rfl) (by decide) (by decide) (fun K hK => ?_) (fun K hK => ?_)
              · refine value_ (w1 := ?_) (v := ?_) (by rfl) rfl ?_ ?_
                rotate_left 2
                · go_simp
                  constructor
                  · rfl
                  · rfl
                have M1_ := Aside0.mk (HDr.out.alloc (.cells #[.int .u8 0] 5 (0, 0)))
                have B6 := Aside0.mk (new_blk wd (.cells #[.int .u8 0] 5 (0, 0)))
                refine hK.out _ _ ⟨(blk_cell M1_.out.blk 3).trans rfl, (blk_cell M1_.out.blk 4).trans rfl⟩ (fun hHeld => ?_)
                clear hK K
                refine norm_ (a' := ?_) ?_ ?_
                rotate_left
                · show Act.put _ (some 50) _ = _
                  simp only [Act.put, List.setIfInBounds_toArray, List.set_cons_zero, List.set_cons_succ, i64_w, i32_w]
                  rfl
                refine two_ (i := 7) (j := 12) (Ni := some 51) (Nj := some 56) #[true, true, true, true, true, true, true, true, true, true, true, true, false, false, false, false, false, false, false, false] #[true, true, true, true, true, true, true, false, true, true, true, true, true, false, false, false, false, false, false, false] rfl rfl rfl rfl (by kernel_rfl) (by decide) (by decide) (fun K hK => ?_) (fun K hK => ?_)
                · refine Q_append_at (Kd.int .u8) (w0 := w0) base (by rfl) (.tmp 49) (.tmp 50) 47 5 (.int .u8 0) 1 rfl Try.underlying47 info5 rfl (by decide) (by omega) (.slice Ad d2.length cd) d2 (0 : Int) [.int .u8 0] wd.heap.size 5 (0, 0) (fun k => vr.ownBlock = some k → False) (fun _ => False) rfl rfl B6.out rfl (fun _ hk => hk.elim) (fun k hk h2 => absurd (Kd.R_lt M1_.out.r k h2) (Nat.not_lt.mpr hk)) (Kd.Q_mono (Kd.Q_tight rfl M1_.out.d) (fun k hk h2 => M1_.out.sep k h2 hk.symm)) M1_.out.below M1_.out.base_le HN7.out ?_
                  intro v51 y7 ha hb2 hgr hat
                  have M2_ := Aside0.mk (M1_.out.grow_d ha hgr hat)
                  obtain ⟨A51, n51, q51, ev⟩ := q_any ha
                  subst ev
                  clear ha hb2 hgr hat
                  refine hK.out _ _ ⟨(blk_cell M2_.out.blk 3).trans rfl, (blk_cell M2_.out.blk 4).trans rfl⟩ (fun hHeld => ?_)
                  clear hK K
                  refine norm_ (a' := ?_) ?_ ?_
                  rotate_left
                  · show Act.put _ (some 51) _ = _
                    simp only [Act.put, List.setIfInBounds_toArray, List.set_cons_zero, List.set_cons_succ, i64_w, i32_w]
                    rfl
                  refine one_ (i := 12) (N := some 56) #[true, true, true, true, true, true, true, true, true, true, true, true, true, false, false, false, false, false, false, false] rfl rfl (by kernel_rfl) (by decide) (fun K hK => ?_)
                  refine value_ (w1 := ?_) (v := ?_) (by rfl) rfl ?_ ?_
                  rotate_left 2
                  · go_simp
                    constructor
                    · rfl
                    · rfl
                  have M3_ := Aside0.mk (M2_.out.alloc (.cells #[.bool false] 4 (0, 0)))
                  have B12 := Aside0.mk (new_blk y7 (.cells #[.bool false] 4 (0, 0)))
                  refine hK.out _ _ ⟨(blk_cell M3_.out.blk 3).trans rfl, (blk_cell M3_.out.blk 4).trans rfl⟩ (fun hHeld => ?_)
                  clear hK K
                  refine norm_ (a' := ?_) ?_ ?_
                  rotate_left
                  · show Act.put _ (some 56) _ = _
                    simp only [Act.put, List.setIfInBounds_toArray, List.set_cons_zero, List.set_cons_succ, i64_w, i32_w]
                    rfl
                  refine one_ (i := 13) (N := some 57) #[true, true, true, true, true, true, true, true, true, true, true, true, true, true, false, false, false, false, false, false] rfl rfl (by kernel_rfl) (by decide) (fun K hK => ?_)
                  refine Q_append_at Kd.bool (w0 := w0) base (by rfl) (.tmp 55) (.tmp 56) 42 4 (.bool false) 1 rfl Try.underlying42 info4 rfl (by decide) (by omega) (.slice At t2.length ct) t2 false [.bool false] y7.heap.size 4 (0, 0) (fun _ => True) (fun _ => False) rfl rfl B12.out rfl (fun _ hk => hk.elim) (fun _ _ => trivial) M3_.out.t M3_.out.below M3_.out.base_le HN13.out ?_
                  intro v57 y13 ha hb2 hgr hat
                  have M4_ := Aside0.mk (M3_.out.grow_t ha hgr hat)
                  obtain ⟨A57, n57, q57, ev⟩ := q_any ha
                  subst ev
                  clear ha hb2 hgr hat
                  refine hK.out _ _ ⟨(blk_cell M4_.out.blk 3).trans rfl, (blk_cell M4_.out.blk 4).trans rfl⟩ (fun hHeld => ?_)
                  clear hK K
                  refine norm_ (a' := ?_) ?_ ?_
                  rotate_left
                  · show Act.put _ (some 57) _ = _
                    simp only [Act.put, List.setIfInBounds_toArray, List.set_cons_zero, List.set_cons_succ, i64_w, i32_w]
                    rfl
                  refine pure_ (i := 14) (N := some 58) (v := ?_) (a' := ?_) #[true, true, true, true, true, true, true, true, true, true, true, true, true, true, true, false, false, false, false, false] rfl rfl (by kernel_rfl) (fun _ _ _ h => h) (Or.inl ⟨by rfl, ?_⟩) ?_ ?_
                  rotate_left
                  · intro w'
                    go_simp
                    with_reducible rfl
                  rotate_left
                  · simp only [Act.put, List.setIfInBounds_toArray, List.set_cons_zero, List.set_cons_succ, i64_w, i32_w]
                    rfl
                  refine pure_ (i := 15) (N := some 59) (v := ?_) (a' := ?_) #[true, true, true, true, true, true, true, true, true, true, true, true, true, true, true, true, false, false, false, false] rfl rfl (by kernel_rfl) (fun _ _ _ h => h) (Or.inl ⟨by rfl, ?_⟩) ?_ ?_
                  rotate_left
                  · intro w'
                    go_simp
                    with_reducible rfl
                  rotate_left
                  · simp only [Act.put, List.setIfInBounds_toArray, List.set_cons_zero, List.set_cons_succ, i64_w, i32_w]
                    rfl
                  refine last_ (i := 16) (N := none) #[true, true, true, true, true, true, true, true, true, true, true, true, true, true, true, true, true, false, false, false] rfl rfl (by kernel_rfl) (by decide) (fun K hK => ?_)
                  have z3 := (blk_cell M4_.out.blk 3).trans rfl
                  have e3 := blk_frozen M4_.out.blk 3
                  refine skip_ (w1 := ?_) (by rfl) rfl ?_ ?_
                  rotate_left
                  · go_simp
                    rfl
                  refine hK.out _ _ ?_
                  clear hK K
                  have MA := Aside0.mk (M4_.out.put3 (.slice A51 n51 q51))
                  clear z3 e3
                  refine pure_ (i := 17) (N := some 60) (v := ?_) (a' := ?_) #[true, true, true, true, true, true, true, true, true, true, true, true, true, true, true, true, true, true, false, false] rfl rfl (by kernel_rfl) (fun _ _ _ h => h) (Or.inl ⟨by rfl, ?_⟩) ?_ ?_
                  rotate_left
                  · intro w'
                    go_simp
                    with_reducible rfl
                  rotate_left
                  · simp only [Act.put, List.setIfInBounds_toArray, List.set_cons_zero, List.set_cons_succ, i64_w, i32_w]
                    rfl
                  refine pure_ (i := 18) (N := some 61) (v := ?_) (a' := ?_) #[true, true, true, true, true, true, true, true, true, true, true, true, true, true, true, true, true, true, true, false] rfl rfl (by kernel_rfl) (fun _ _ _ h => h) (Or.inl ⟨by rfl, ?_⟩) ?_ ?_
                  rotate_left
                  · intro w'
                    go_simp
                    with_reducible rfl
                  rotate_left
                  · simp only [Act.put, List.setIfInBounds_toArray, List.set_cons_zero, List.set_cons_succ, i64_w, i32_w]
                    rfl
                  refine last_ (i := 19) (N := none) #[true, true, true, true, true, true, true, true, true, true, true, true, true, true, true, true, true, true, true, true] rfl rfl (by kernel_rfl) (by decide) (fun K hK => ?_)
                  have z4 := (blk_cell MA.out.blk 4).trans rfl
                  have e4 := blk_frozen MA.out.blk 4
                  refine skip_ (w1 := ?_) (by rfl) rfl ?_ ?_
                  rotate_left
                  · go_simp
                    rfl
                  refine hK.out _ _ ?_
                  clear hK K
                  have MB := Aside0.mk (MA.out.put4 (.slice A57 n57 q57))
                  clear z4 e4
                  refine done_ (by kernel_rfl) ?_
                  try go_wp2
                  go_roundg k2
                  case measure => have := HJ.out; omega
                  case rel => exact ⟨_, _, d2 ++ [0], t2 ++ [false], HJ2, HE2, HPD2, MB⟩
                · refine value_ (w1 := ?_) (v := ?_) (by rfl) rfl ?_ ?_
                  rotate_left 2
                  · go_simp
                    constructor
                    · rfl
                    · rfl
                  have M2_ := Aside0.mk (M1_.out.alloc (.cells #[.bool false] 4 (0, 0)))
                  have B12h := new_blk (wd.alloc (.cells #[.int .u8 0] 5 (0, 0))) (.cells #[.bool false] 4 (0, 0))
                  rw [World.size_alloc] at B12h
                  have B12 := Aside0.mk B12h
                  clear B12h
                  have B6' := Aside0.mk (blk_alloc B6.out (.cells #[.bool false] 4 (0, 0)))
                  clear B6
                  have B6 := B6'
                  clear B6'
                  refine hK.out _ _ ⟨(blk_cell M2_.out.blk 3).trans rfl, (blk_cell M2_.out.blk 4).trans rfl⟩ (fun hHeld => ?_)
                  clear hK K
                  refine norm_ (a' := ?_) ?_ ?_
                  rotate_left
                  · show Act.put _ (some 56) _ = _
                    simp only [Act.put, List.setIfInBounds_toArray, List.set_cons_zero, List.set_cons_succ, i64_w, i32_w]
                    rfl
                  refine one_ (i := 7) (N := some 51) #[true, true, true, true, true, true, true, true, true, true, true, true, true, false, false, false, false, false, false, false] rfl rfl (by kernel_rfl) (by decide) (fun K hK => ?_)
                  refine Q_append_at (Kd.int .u8) (w0 := w0) base (by rfl) (.tmp 49) (.tmp 50) 47 5 (.int .u8 0) 1 rfl Try.underlying47 info5 rfl (by decide) (by omega) (.slice Ad d2.length cd) d2 (0 : Int) [.int .u8 0] wd.heap.size 5 (0, 0) (fun k => vr.ownBlock = some k → False) (fun _ => False) rfl rfl B6.out rfl (fun _ hk => hk.elim) (fun k hk h2 => absurd (Kd.R_lt M2_.out.r k h2) (Nat.not_lt.mpr hk)) (Kd.Q_mono (Kd.Q_tight rfl M2_.out.d) (fun k hk h2 => M2_.out.sep k h2 hk.symm)) M2_.out.below M2_.out.base_le HN7.out ?_
                  intro v51 y7 ha hb2 hgr hat
                  have B12' := Aside0.mk (blk_grown B12.out hgr (Kd.Q_ne M2_.out.d B12.out (by decide)))
                  clear B12
                  have B12 := B12'
                  clear B12'
                  have M3_ := Aside0.mk (M2_.out.grow_d ha hgr hat)
                  obtain ⟨A51, n51, q51, ev⟩ := q_any ha
                  subst ev
                  clear ha hb2 hgr hat
                  refine hK.out _ _ ⟨(blk_cell M3_.out.blk 3).trans rfl, (blk_cell M3_.out.blk 4).trans rfl⟩ (fun hHeld => ?_)
                  clear hK K
                  refine norm_ (a' := ?_) ?_ ?_
                  rotate_left
                  · show Act.put _ (some 51) _ = _
                    simp only [Act.put, List.setIfInBounds_toArray, List.set_cons_zero, List.set_cons_succ, i64_w, i32_w]
                    rfl
                  refine one_ (i := 13) (N := some 57) #[true, true, true, true, true, true, true, true, true, true, true, true, true, true, false, false, false, false, false, false] rfl rfl (by kernel_rfl) (by decide) (fun K hK => ?_)
                  refine Q_append_at Kd.bool (w0 := w0) base (by rfl) (.tmp 55) (.tmp 56) 42 4 (.bool false) 1 rfl Try.underlying42 info4 rfl (by decide) (by omega) (.slice At t2.length ct) t2 false [.bool false] (wd.heap.size + 1) 4 (0, 0) (fun _ => True) (fun _ => False) rfl rfl B12.out rfl (fun _ hk => hk.elim) (fun _ _ => trivial) M3_.out.t M3_.out.below M3_.out.base_le HN13.out ?_
                  intro v57 y13 ha hb2 hgr hat
                  have M4_ := Aside0.mk (M3_.out.grow_t ha hgr hat)
                  obtain ⟨A57, n57, q57, ev⟩ := q_any ha
                  subst ev
                  clear ha hb2 hgr hat
                  refine hK.out _ _ ⟨(blk_cell M4_.out.blk 3).trans rfl, (blk_cell M4_.out.blk 4).trans rfl⟩ (fun hHeld => ?_)
                  clear hK K
                  refine norm_ (a' := ?_) ?_ ?_
                  rotate_left
                  · show Act.put _ (some 57) _ = _
                    simp only [Act.put, List.setIfInBounds_toArray, List.set_cons_zero, List.set_cons_succ, i64_w, i32_w]
                    rfl
                  refine pure_ (i := 14) (N := some 58) (v := ?_) (a' := ?_) #[true, true, true, true, true, true, true, true, true, true, true, true, true, true, true, false, false, false, false, false] rfl rfl (by kernel_rfl) (fun _ _ _ h => h) (Or.inl ⟨by rfl, ?_⟩) ?_ ?_
                  rotate_left
                  · intro w'
                    go_simp
                    with_reducible rfl
                  rotate_left
                  · simp only [Act.put, List.setIfInBounds_toArray, List.set_cons_zero, List.set_cons_succ, i64_w, i32_w]
                    rfl
                  refine pure_ (i := 15) (N := some 59) (v := ?_) (a' := ?_) #[true, true, true, true, true, true, true, true, true, true, true, true, true, true, true, true, false, false, false, false] rfl rfl (by kernel_rfl) (fun _ _ _ h => h) (Or.inl ⟨by rfl, ?_⟩) ?_ ?_
                  rotate_left
                  · intro w'
                    go_simp
                    with_reducible rfl
                  rotate_left
                  · simp only [Act.put, List.setIfInBounds_toArray, List.set_cons_zero, List.set_cons_succ, i64_w, i32_w]
                    rfl
                  refine last_ (i := 16) (N := none) #[true, true, true, true, true, true, true, true, true, true, true, true, true, true, true, true, true, false, false, false] rfl rfl (by kernel_rfl) (by decide) (fun K hK => ?_)
                  have z3 := (blk_cell M4_.out.blk 3).trans rfl
                  have e3 := blk_frozen M4_.out.blk 3
                  refine skip_ (w1 := ?_) (by rfl) rfl ?_ ?_
                  rotate_left
                  · go_simp
                    rfl
                  refine hK.out _ _ ?_
                  clear hK K
                  have MA := Aside0.mk (M4_.out.put3 (.slice A51 n51 q51))
                  clear z3 e3
                  refine pure_ (i := 17) (N := some 60) (v := ?_) (a' := ?_) #[true, true, true, true, true, true, true, true, true, true, true, true, true, true, true, true, true, true, false, false] rfl rfl (by kernel_rfl) (fun _ _ _ h => h) (Or.inl ⟨by rfl, ?_⟩) ?_ ?_
                  rotate_left
                  · intro w'
                    go_simp
                    with_reducible rfl
                  rotate_left
                  · simp only [Act.put, List.setIfInBounds_toArray, List.set_cons_zero, List.set_cons_succ, i64_w, i32_w]
                    rfl
                  refine pure_ (i := 18) (N := some 61) (v := ?_) (a' := ?_) #[true, true, true, true, true, true, true, true, true, true, true, true, true, true, true, true, true, true, true, false] rfl rfl (by kernel_rfl) (fun _ _ _ h => h) (Or.inl ⟨by rfl, ?_⟩) ?_ ?_
                  rotate_left
                  · intro w'
                    go_simp
                    with_reducible rfl
                  rotate_left
                  · simp only [Act.put, List.setIfInBounds_toArray, List.set_cons_zero, List.set_cons_succ, i64_w, i32_w]
                    rfl
                  refine last_ (i := 19) (N := none) #[true, true, true, true, true, true, true, true, true, true, true, true, true, true, true, true, true, true, true, true] rfl rfl (by kernel_rfl) (by decide) (fun K hK => ?_)
                  have z4 := (blk_cell MA.out.blk 4).trans rfl
                  have e4 := blk_frozen MA.out.blk 4
                  refine skip_ (w1 := ?_) (by rfl) rfl ?_ ?_
                  rotate_left
                  · go_simp
                    rfl
                  refine hK.out _ _ ?_
                  clear hK K
                  have MB := Aside0.mk (MA.out.put4 (.slice A57 n57 q57))
                  clear z4 e4
                  refine done_ (by kernel_rfl) ?_
                  try go_wp2
                  go_roundg k2
                  case measure => have := HJ.out; omega
                  case rel => exact ⟨_, _, d2 ++ [0], t2 ++ [false], HJ2, HE2, HPD2, MB⟩
              · refine value_ (w1 := ?_) (v := ?_) (by rfl) rfl ?_ ?_
                rotate_left 2
                · go_simp
                  constructor
                  · rfl
                  · rfl
                have M1_ := Aside0.mk (HDr.out.alloc (.cells #[.bool false] 4 (0, 0)))
                have B12 := Aside0.mk (new_blk wd (.cells #[.bool false] 4 (0, 0)))
                refine hK.out _ _ ⟨(blk_cell M1_.out.blk 3).trans rfl, (blk_cell M1_.out.blk 4).trans rfl⟩ (fun hHeld => ?_)
                clear hK K
                refine norm_ (a' := ?_) ?_ ?_
                rotate_left
                · show Act.put _ (some 56) _ = _
                  simp only [Act.put, List.setIfInBounds_toArray, List.set_cons_zero, List.set_cons_succ, i64_w, i32_w]
                  rfl
                refine one_ (i := 6) (N := some 50) #[true, true, true, true, true, true, true, false, true, true, true, true, true, false, false, false, false, false, false, false] rfl rfl (by kernel_rfl) (by decide) (fun K hK => ?_)
                refine value_ (w1 := ?_) (v := ?_) (by rfl) rfl ?_ ?_
                rotate_left 2
                · go_simp
                  constructor
                  · rfl
                  · rfl
                have M2_ := Aside0.mk (M1_.out.alloc (.cells #[.int .u8 0] 5 (0, 0)))
                have B6h := new_blk (wd.alloc (.cells #[.bool false] 4 (0, 0))) (.cells #[.int .u8 0] 5 (0, 0))
                rw [World.size_alloc] at B6h
                have B6 := Aside0.mk B6h
                clear B6h
                have B12' := Aside0.mk (blk_alloc B12.out (.cells #[.int .u8 0] 5 (0, 0)))
                clear B12
                have B12 := B12'
                clear B12'
                refine hK.out _ _ ⟨(blk_cell M2_.out.blk 3).trans rfl, (blk_cell M2_.out.blk 4).trans rfl⟩ (fun hHeld => ?_)
                clear hK K
                refine norm_ (a' := ?_) ?_ ?_
                rotate_left
                · show Act.put _ (some 50) _ = _
                  simp only [Act.put, List.setIfInBounds_toArray, List.set_cons_zero, List.set_cons_succ, i64_w, i32_w]
                  rfl
                refine one_ (i := 7) (N := some 51) #[true, true, true, true, true, true, true, true, true, true, true, true, true, false, false, false, false, false, false, false] rfl rfl (by kernel_rfl) (by decide) (fun K hK => ?_)
                refine Q_append_at (Kd.int .u8) (w0 := w0) base (by rfl) (.tmp 49) (.tmp 50) 47 5 (.int .u8 0) 1 rfl Try.underlying47 info5 rfl (by decide) (by omega) (.slice Ad d2.length cd) d2 (0 : Int) [.int .u8 0] (wd.heap.size + 1) 5 (0, 0) (fun k => vr.ownBlock = some k → False) (fun _ => False) rfl rfl B6.out rfl (fun _ hk => hk.elim) (fun k hk h2 => absurd (Kd.R_lt M2_.out.r k h2) (Nat.not_lt.mpr hk)) (Kd.Q_mono (Kd.Q_tight rfl M2_.out.d) (fun k hk h2 => M2_.out.sep k h2 hk.symm)) M2_.out.below M2_.out.base_le HN7.out ?_
                intro v51 y7 ha hb2 hgr hat
                have B12' := Aside0.mk (blk_grown B12.out hgr (Kd.Q_ne M2_.out.d B12.out (by decide)))
                clear B12
                have B12 := B12'
                clear B12'
                have M3_ := Aside0.mk (M2_.out.grow_d ha hgr hat)
                obtain ⟨A51, n51, q51, ev⟩ := q_any ha
                subst ev
                clear ha hb2 hgr hat
                refine hK.out _ _ ⟨(blk_cell M3_.out.blk 3).trans rfl, (blk_cell M3_.out.blk 4).trans rfl⟩ (fun hHeld => ?_)
                clear hK K
                refine norm_ (a' := ?_) ?_ ?_
                rotate_left
                · show Act.put _ (some 51) _ = _
                  simp only [Act.put, List.setIfInBounds_toArray, List.set_cons_zero, List.set_cons_succ, i64_w, i32_w]
                  rfl
                refine one_ (i := 13) (N := some 57) #[true, true, true, true, true, true, true, true, true, true, true, true, true, true, false, false, false, false, false, false] rfl rfl (by kernel_rfl) (by decide) (fun K hK => ?_)
                refine Q_append_at Kd.bool (w0 := w0) base (by rfl) (.tmp 55) (.tmp 56) 42 4 (.bool false) 1 rfl Try.underlying42 info4 rfl (by decide) (by omega) (.slice At t2.length ct) t2 false [.bool false] wd.heap.size 4 (0, 0) (fun _ => True) (fun _ => False) rfl rfl B12.out rfl (fun _ hk => hk.elim) (fun _ _ => trivial) M3_.out.t M3_.out.below M3_.out.base_le HN13.out ?_
                intro v57 y13 ha hb2 hgr hat
                have M4_ := Aside0.mk (M3_.out.grow_t ha hgr hat)
                obtain ⟨A57, n57, q57, ev⟩ := q_any ha
                subst ev
                clear ha hb2 hgr hat
                refine hK.out _ _ ⟨(blk_cell M4_.out.blk 3).trans rfl, (blk_cell M4_.out.blk 4).trans rfl⟩ (fun hHeld => ?_)
                clear hK K
                refine norm_ (a' := ?_) ?_ ?_
                rotate_left
                · show Act.put _ (some 57) _ = _
                  simp only [Act.put, List.setIfInBounds_toArray, List.set_cons_zero, List.set_cons_succ, i64_w, i32_w]
                  rfl
                refine pure_ (i := 14) (N := some 58) (v := ?_) (a' := ?_) #[true, true, true, true, true, true, true, true, true, true, true, true, true, true, true, false, false, false, false, false] rfl rfl (by kernel_rfl) (fun _ _ _ h => h) (Or.inl ⟨by rfl, ?_⟩) ?_ ?_
                rotate_left
                · intro w'
                  go_simp
                  with_reducible rfl
                rotate_left
                · simp only [Act.put, List.setIfInBounds_toArray, List.set_cons_zero, List.set_cons_succ, i64_w, i32_w]
                  rfl
                refine pure_ (i := 15) (N := some 59) (v := ?_) (a' := ?_) #[true, true, true, true, true, true, true, true, true, true, true, true, true, true, true, true, false, false, false, false] rfl rfl (by kernel_rfl) (fun _ _ _ h => h) (Or.inl ⟨by rfl, ?_⟩) ?_ ?_
                rotate_left
                · intro w'
                  go_simp
                  with_reducible rfl
                rotate_left
                · simp only [Act.put, List.setIfInBounds_toArray, List.set_cons_zero, List.set_cons_succ, i64_w, i32_w]
                  rfl
                refine last_ (i := 16) (N := none) #[true, true, true, true, true, true, true, true, true, true, true, true, true, true, true, true, true, false, false, false] rfl rfl (by kernel_rfl) (by decide) (fun K hK => ?_)
                have z3 := (blk_cell M4_.out.blk 3).trans rfl
                have e3 := blk_frozen M4_.out.blk 3
                refine skip_ (w1 := ?_) (by rfl) rfl ?_ ?_
                rotate_left
                · go_simp
                  rfl
                refine hK.out _ _ ?_
                clear hK K
                have MA := Aside0.mk (M4_.out.put3 (.slice A51 n51 q51))
                clear z3 e3
                refine pure_ (i := 17) (N := some 60) (v := ?_) (a' := ?_) #[true, true, true, true, true, true, true, true, true, true, true, true, true, true, true, true, true, true, false, false] rfl rfl (by kernel_rfl) (fun _ _ _ h => h) (Or.inl ⟨by rfl, ?_⟩) ?_ ?_
                rotate_left
                · intro w'
                  go_simp
                  with_reducible rfl
                rotate_left
                · simp only [Act.put, List.setIfInBounds_toArray, List.set_cons_zero, List.set_cons_succ, i64_w, i32_w]
                  rfl
                refine pure_ (i := 18) (N := some 61) (v := ?_) (a' := ?_) #[true, true, true, true, true, true, true, true, true, true, true, true, true, true, true, true, true, true, true, false] rfl rfl (by kernel_rfl) (fun _ _ _ h => h) (Or.inl ⟨by rfl, ?_⟩) ?_ ?_
                rotate_left
                · intro w'
                  go_simp
                  with_reducible rfl
                rotate_left
                · simp only [Act.put, List.setIfInBounds_toArray, List.set_cons_zero, List.set_cons_succ, i64_w, i32_w]
                  rfl
                refine last_ (i := 19) (N := none) #[true, true, true, true, true, true, true, true, true, true, true, true, true, true, true, true, true, true, true, true] rfl rfl (by kernel_rfl) (by decide) (fun K hK => ?_)
                have z4 := (blk_cell MA.out.blk 4).trans rfl
                have e4 := blk_frozen MA.out.blk 4
                refine skip_ (w1 := ?_) (by rfl) rfl ?_ ?_
                rotate_left
                · go_simp
                  rfl
                refine hK.out _ _ ?_
                clear hK K
                have MB := Aside0.mk (MA.out.put4 (.slice A57 n57 q57))
                clear z4 e4
                refine done_ (by kernel_rfl) ?_
                try go_wp2
                go_roundg k2
                case measure => have := HJ.out; omega
                case rel => exact ⟨_, _, d2 ++ [0], t2 ++ [false], HJ2, HE2, HPD2, MB⟩
end
end Go.Proofs.Ytpanenghlpipkaa.Recv
