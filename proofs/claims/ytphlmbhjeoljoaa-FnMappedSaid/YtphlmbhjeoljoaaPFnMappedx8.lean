-- Written by a program of this session, which goes by the kit's print. Not trusted: Lean checks it.
import Derived.Test.YtphlmbhjeoljoaaPFnMappedx0
import Derived.Test.YtphlmbhjeoljoaaPFnMappedx4
namespace Go.Proofs.Ytphlmbhjeoljoaa.PFnMapped
open Go.RowKit Go.Proofs.YtphlmbhjeoljoaaW.PrintWords Go.Proofs.YtphlmbhjeoljoaaW.PrintLast Go.Proofs.YtphlmbhjeoljoaaW.PrintMore
attribute [local go_sem] max2_int min2_int max_two min_two max_three min_three max_four min_four   -- for this text's walks alone
set_option linter.unusedVariables false
set_option linter.unusedSimpArgs false

/-- A state of type 189 at block g of W; what its slices lead to came in by w0. -/
def IsS189 (w0 W : World) (g : Nat) (f0 : List Int) (f1 : Int) (f2 : Int) : Prop := ∃ A0 c0, W.heap[g]? = some (.cells #[.slice A0 f0.length c0, .int .i64 f1, .int .i64 f2] 189 (0, 0)) ∧ w0.heap.size ≤ g ∧ Kd.C (Kd.int .u8) w0 A0 f0.length f0
theorem IsS189.grown {w0 W : World} {g : Nat} {f0 : List Int} {f1 : Int} {f2 : Int} {W1 : World} {row : Option Nat} (h : IsS189 w0 W g f0 f1 f2) (hw : W.grownBy W1 row) (hne : some g ≠ row) : IsS189 w0 W1 g f0 f1 f2 := by
 obtain ⟨A0, c0, hb, hg, hr0⟩ := h
 exact ⟨A0, c0, blk_grown hb hw hne, hg, hr0⟩
theorem IsS189.own_neN {w0 W : World} {g : Nat} {f0 : List Int} {f1 : Int} {f2 : Int} {α : Type} {d : Kd α} {e : Nat} {base : Nat} {ok : Nat → Prop} {v : Value} {xs : List α} (h : IsS189 w0 W g f0 f1 f2) (ho : Kd.N d e W base ok v xs) (ht : e ≠ 189) : some g ≠ v.ownBlock := by
 obtain ⟨A0, c0, hb, hg, hr0⟩ := h
 exact Kd.N_ne ho hb ht
theorem IsS189.fresh {w0 W : World} {g : Nat} {f0 : List Int} {f1 : Int} {f2 : Int} (h : IsS189 w0 W g f0 f1 f2) : ∀ k, W.heap.size ≤ k → k ≠ g := by
 obtain ⟨A0, c0, hb, hg, hr0⟩ := h
 exact Kd.freshB hb
theorem IsS189.kept {w0 W : World} {g : Nat} {f0 : List Int} {f1 : Int} {f2 : Int} {W1 : World} {S : Nat → Prop} (h : IsS189 w0 W g f0 f1 f2) (hk : Kept W W1 S) (hne : ¬ S g) : IsS189 w0 W1 g f0 f1 f2 := by
 obtain ⟨A0, c0, hb, hg, hr0⟩ := h
 exact ⟨A0, c0, blk_kept hb hk hne, hg, hr0⟩
theorem IsS189.below {w0 W : World} {g : Nat} {f0 : List Int} {f1 : Int} {f2 : Int} {W1 : World} (h : IsS189 w0 W g f0 f1 f2) (hw : Below W.heap.size W W1) : IsS189 w0 W1 g f0 f1 f2 := h.grown (grown_of_below hw none) (by simp)
theorem IsS189.alloc {w0 W : World} {g : Nat} {f0 : List Int} {f1 : Int} {f2 : Int} (h : IsS189 w0 W g f0 f1 f2) (o : Obj) : IsS189 w0 (W.alloc o) g f0 f1 f2 := h.below (below_alloc (Below.refl _ _) o)
theorem IsS189.drewN {w0 W : World} {g : Nat} {f0 : List Int} {f1 : Int} {f2 : Int} (h : IsS189 w0 W g f0 f1 f2) (m : Nat) : IsS189 w0 (W.drewN m) g f0 f1 f2 := h
theorem IsS189.drew {w0 W : World} {g : Nat} {f0 : List Int} {f1 : Int} {f2 : Int} (h : IsS189 w0 W g f0 f1 f2) : IsS189 w0 W.drew g f0 f1 f2 := h
theorem IsS189.at_ {w0 W : World} {g : Nat} {f0 : List Int} {f1 : Int} {f2 : Int} {w' : World} {m : Nat} (hq : W.drewN m = w') (h : IsS189 w0 W g f0 f1 f2) : IsS189 w0 w' g f0 f1 f2 := by subst hq; exact IsS189.drewN h m
theorem IsS189.apart {w0 W : World} {g : Nat} {f0 : List Int} {f1 : Int} {f2 : Int} {α : Type} {d : Kd α} {e : Nat} {base : Nat} {ok : Nat → Prop} {v : Value} {xs : List α} (h : IsS189 w0 W g f0 f1 f2) (ho : d.R e W base ok v xs) (ht : ∀ q, q ∈ e :: d.E → q ≠ 189) : d.R e W base (fun k => ok k ∧ k ≠ g) v xs := by
 obtain ⟨A0, c0, hb, hg, hr0⟩ := h
 exact Kd.R_types ho hb ht
theorem IsS189.own_ne {w0 W : World} {g : Nat} {f0 : List Int} {f1 : Int} {f2 : Int} {α : Type} {d : Kd α} {e : Nat} {base : Nat} {ok : Nat → Prop} {v : Value} {xs : List α} (h : IsS189 w0 W g f0 f1 f2) (ho : d.R e W base ok v xs) (ht : e ≠ 189) : some g ≠ v.ownBlock := by
 obtain ⟨A0, c0, hb, hg, hr0⟩ := h
 exact Kd.R_ne ho hb ht
theorem IsS189.apartQ {w0 W : World} {g : Nat} {f0 : List Int} {f1 : Int} {f2 : Int} {α : Type} {d : Kd α} {e : Nat} {base : Nat} {ok : Nat → Prop} {v : Value} {xs : List α} (h : IsS189 w0 W g f0 f1 f2) (ho : d.Q e W base ok v xs) (ht : ∀ q, q ∈ e :: d.E → q ≠ 189) : d.Q e W base (fun k => ok k ∧ k ≠ g) v xs := by
 obtain ⟨A0, c0, hb, hg, hr0⟩ := h
 exact Kd.Q_types ho hb ht
theorem IsS189.own_neQ {w0 W : World} {g : Nat} {f0 : List Int} {f1 : Int} {f2 : Int} {α : Type} {d : Kd α} {e : Nat} {base : Nat} {ok : Nat → Prop} {v : Value} {xs : List α} (h : IsS189 w0 W g f0 f1 f2) (ho : d.Q e W base ok v xs) (ht : e ≠ 189) : some g ≠ v.ownBlock := by
 obtain ⟨A0, c0, hb, hg, hr0⟩ := h
 exact Kd.Q_ne ho hb ht
theorem IsS189.apartS {w0 W : World} {g : Nat} {f0 : List Int} {f1 : Int} {f2 : Int} {α : Type} {d : Kd α} {e : Nat} {base : Nat} {ok : Nat → Prop} {v : Value} {xs : List α} (h : IsS189 w0 W g f0 f1 f2) (ho : d.S e W base ok v xs) (ht : ∀ q, q ∈ e :: d.E → q ≠ 189) : d.S e W base (fun k => ok k ∧ k ≠ g) v xs := by
 obtain ⟨A0, c0, hb, hg, hr0⟩ := h
 exact Kd.S_types ho hb ht
theorem IsS189.own_neS {w0 W : World} {g : Nat} {f0 : List Int} {f1 : Int} {f2 : Int} {α : Type} {d : Kd α} {e : Nat} {base : Nat} {ok : Nat → Prop} {v : Value} {xs : List α} (h : IsS189 w0 W g f0 f1 f2) (ho : d.S e W base ok v xs) (ht : e ≠ 189) : some g ≠ v.ownBlock := by
 obtain ⟨A0, c0, hb, hg, hr0⟩ := h
 exact Kd.S_ne ho hb ht
theorem IsS189.lt {w0 W : World} {g : Nat} {f0 : List Int} {f1 : Int} {f2 : Int} (h : IsS189 w0 W g f0 f1 f2) : g < W.heap.size := by
 obtain ⟨A0, c0, hb, hg, hr0⟩ := h
 exact blk_lt hb
theorem IsS189.ge {w0 W : World} {g : Nat} {f0 : List Int} {f1 : Int} {f2 : Int} (h : IsS189 w0 W g f0 f1 f2) : w0.heap.size ≤ g := by
 obtain ⟨A0, c0, hb, hg, hr0⟩ := h
 exact hg
theorem IsS189.ne_blk {w0 W : World} {g : Nat} {f0 : List Int} {f1 : Int} {f2 : Int} {a : Nat} {cs : Array Value} {t : TypeId} {fr : Nat × Nat} (h : IsS189 w0 W g f0 f1 f2) (hb2 : W.heap[a]? = some (.cells cs t fr)) (ht : t ≠ 189) : g ≠ a := by
 obtain ⟨A0, c0, hb, hg, hr0⟩ := h
 rintro rfl
 rw [hb] at hb2
 injection hb2 with hb2
 injection hb2 with _ ht2
 exact ht ht2.symm
theorem IsS189.far {w0 W : World} {g : Nat} {f0 : List Int} {f1 : Int} {f2 : Int} {p : Addr} (h : IsS189 w0 W g f0 f1 f2) (hne : g ≠ p.block) (u : Value) : IsS189 w0 (W.setCell p u) g f0 f1 f2 := by
 obtain ⟨A0, c0, hb, hg, hr0⟩ := h
 exact ⟨A0, c0, blk_far hb hne u, hg, hr0⟩
theorem cellS189_0 {W : World} {g : Nat} {A0 : Option Addr} {c0 : Nat} {f0 : List Int} {f1 : Int} {f2 : Int} (h : W.heap[g]? = some (.cells #[.slice A0 f0.length c0, .int .i64 f1, .int .i64 f2] 189 (0, 0))) : W.cell? ⟨g, 0, none⟩ = some (.slice A0 f0.length c0) := (blk_cell h 0).trans rfl
theorem cellS189_1 {W : World} {g : Nat} {A0 : Option Addr} {c0 : Nat} {f0 : List Int} {f1 : Int} {f2 : Int} (h : W.heap[g]? = some (.cells #[.slice A0 f0.length c0, .int .i64 f1, .int .i64 f2] 189 (0, 0))) : W.cell? ⟨g, 1, none⟩ = some (.int .i64 f1) := (blk_cell h 1).trans rfl
theorem IsS189.set_1 {w0 W : World} {g : Nat} {f0 : List Int} {f1 : Int} {f2 : Int} (h : IsS189 w0 W g f0 f1 f2) (x : Int) : IsS189 w0 (W.setCell ⟨g, 1, none⟩ (.int .i64 x)) g f0 x f2 := by
 obtain ⟨A0, c0, hb, hg, hr0⟩ := h
 exact ⟨A0, c0, by simpa using blk_set hb 1 (.int .i64 x), hg, hr0⟩
theorem cellS189_2 {W : World} {g : Nat} {A0 : Option Addr} {c0 : Nat} {f0 : List Int} {f1 : Int} {f2 : Int} (h : W.heap[g]? = some (.cells #[.slice A0 f0.length c0, .int .i64 f1, .int .i64 f2] 189 (0, 0))) : W.cell? ⟨g, 2, none⟩ = some (.int .i64 f2) := (blk_cell h 2).trans rfl
theorem IsS189.set_2 {w0 W : World} {g : Nat} {f0 : List Int} {f1 : Int} {f2 : Int} (h : IsS189 w0 W g f0 f1 f2) (x : Int) : IsS189 w0 (W.setCell ⟨g, 2, none⟩ (.int .i64 x)) g f0 f1 x := by
 obtain ⟨A0, c0, hb, hg, hr0⟩ := h
 exact ⟨A0, c0, by simpa using blk_set hb 2 (.int .i64 x), hg, hr0⟩
theorem IsS189.new (w0 W : World) (A0 : Option Addr) (c0 : Nat) (f0 : List Int) (f1 : Int) (f2 : Int) (hB : Below w0.heap.size w0 W) (hr0 : Kd.C (Kd.int .u8) w0 A0 f0.length f0) : IsS189 w0 (W.alloc (.cells #[.slice A0 f0.length c0, .int .i64 f1, .int .i64 f2] 189)) W.heap.size f0 f1 f2 := ⟨A0, c0, by simpa using heap_alloc_new W _, hB.size, hr0⟩

/-! ### spec_l1New: function 123 -/
def spec_l1New.l0 : Nat → List Int → Int → Int → Option (List Int × Int × Int)
 | 0, _, _, _ => none
 | k + 1, x0, x3, x4 => if x4 < (x0.length : Int) then (if x4 < 4000 then (if 0 ≤ x4 then (spec_l1New.l0 k x0 (Go.bits .and .i64 (wrap64 ((wrap64 ((wrap64 (x3 * 131)) + (wrap64 (rd x0 x4)))) + 7)) 1073741823) (wrap64 (x4 + 1))) else (none)) else (some (x0, 0, x3))) else (some (x0, 0, x3))
def spec_l1New.f (k : Nat) (l0 : List Int) : Option (List Int × Int × Int) := spec_l1New.l0 k l0 (wrap64 (18665 + (l0.length : Int))) 0
theorem spec_l1New.mono_l : ∀ k, (∀ y0 y1 y2, LeO (spec_l1New.l0 k y0 y1 y2) (spec_l1New.l0 (k + 1) y0 y1 y2))
 | 0 => fun _ _ _ r h => by simp [spec_l1New.l0] at h
 | k + 1 => by
  have ih0 := spec_l1New.mono_l k
  ·intro y0 y1 y2
   unfold spec_l1New.l0
   repeat' first
   | (with_reducible exact ih0 _ _ _)
   | (with_reducible exact LeO.refl _)
   | (with_reducible exact LeO.none _)
   | (with_reducible refine LeO.ite ?_ ?_)
   | (with_reducible refine LeO.bind ?_ (fun _ => ?_))
   | exact ih0 _ _ _
   | exact LeO.none _
   | refine LeO.ite ?_ ?_
   | refine LeO.bind ?_ (fun _ => ?_)
theorem spec_l1New.mono : ∀ a0 k, LeO (spec_l1New.f k a0) (spec_l1New.f (k + 1) a0) := by
 intro a0 k
 have ih0 := spec_l1New.mono_l k
 unfold spec_l1New.f
 repeat' first
   | (with_reducible exact ih0 _ _ _)
   | (with_reducible exact LeO.refl _)
   | (with_reducible exact LeO.none _)
   | (with_reducible refine LeO.ite ?_ ?_)
   | (with_reducible refine LeO.bind ?_ (fun _ => ?_))
   | exact ih0 _ _ _
   | exact LeO.none _
   | refine LeO.ite ?_ ?_
   | refine LeO.bind ?_ (fun _ => ?_)
set_option maxHeartbeats 8000000 in
set_option maxRecDepth 100000 in
theorem spec_l1New.calls (k : Nat) (A0 : Option Addr) (c0 : Nat) (l0 : List Int) (r1 : List Int) (r2 : Int) (r3 : Int) (w0 w : World) (hB : Below w0.heap.size w0 w) (hr0 : Kd.C (Kd.int .u8) w0 A0 l0.length l0) (hc0 : l0.length ≤ c0) (h : spec_l1New.f k l0 = some (r1, r2, r3)) :
  Calls Try.prog 123 #[.slice A0 l0.length c0] w fun e w' => ∃ g_ : Nat, e = .returned (.pointer (some ⟨g_, 0, none⟩)) ∧ IsS189 w0 w' g_ r1 r2 r3 ∧ Below w0.heap.size w0 w' ∧ Below w.heap.size w w' := by
 have hu189 := Try.underlying189
 have HR0 := q_ hr0
 have HC0 := q_ hc0
 clear hr0 hc0
 have HBW := q_ (Below.refl w.heap.size w)
 have HW0 := q_ hB.size
 have HB := q_ hB
 clear hB
 have H : (spec_l1New.l0 k l0 (wrap64 (18665 + (l0.length : Int))) 0) = some (r1, r2, r3) := h
 clear h
 have H' := q_ H
 clear H
 go_enter Try.func123, Try.ntmps123
 go_wp2
 go_loopg [3, 4] k (fun kq v3 v4 w' => ∃ (x3_1 : Int) (x4_1 : Int), v3 = .int .i64 x3_1 ∧ v4 = .int .i64 x4_1 ∧ Aside0 (spec_l1New.l0 kq l0 x3_1 x4_1 = some (r1, r2, r3)) ∧ Aside0 (kq ≤ k) ∧ Aside0 (Below w.heap.size w w') ∧ Aside0 (Below w0.heap.size w0 w'))
 case atStart => exact ⟨(wrap64 (18665 + (l0.length : Int))), (0), z11_, z11_, H', ⟨Nat.le_refl _⟩, ⟨z57_⟩, ⟨z0_⟩⟩
 case round =>
  clear H'
  try clear c1
  obtain ⟨x3_1, x4_1, rfl, rfl, HA, HK1, HBW, HB⟩ := hrel
  cases gk with
  | zero => exact absurd HA.out (by simp [spec_l1New.l0])
  | succ k1 =>
   have H := HA.out
   clear HA
   simp only [spec_l1New.l0] at H
   by_cases c2 : x4_1 < (l0.length : Int)
   ·rw [if_pos c2] at H
    have c2b0 : decide (x4_1 < (l0.length : Int)) = true := decide_eq_true c2
    clear c2
    by_cases c3 : x4_1 < 4000
    ·rw [if_pos c3] at H
     have c3b0 : decide (x4_1 < 4000) = true := decide_eq_true c3
     clear c3
     by_cases c4 : 0 ≤ x4_1
     ·rw [if_pos c4] at H
      have c4b0 : decide (0 ≤ x4_1) = true := decide_eq_true c4
      clear c4
      have H' := q_ H
      clear H
      have p217 : 0 ≤ (x4_1 : Int) := of_decide_eq_true z6_
      have q217 : x4_1 < (l0.length : Int) := of_decide_eq_true z6_
      obtain ⟨ad217, e217, hx217_0⟩ := Kd.at_int HR0.out x4_1 p217 q217
      cases e217
      replace hx217_0 := pw_cell_below HB.out hx217_0
      replace p217 := eq_true p217
      replace q217 := eq_true q217
      go_wp2
      go_roundg k1
      case measure => have := HK1.out; omega
      case rel => exact ⟨(Go.bits .and .i64 (wrap64 ((wrap64 ((wrap64 (x3_1 * 131)) + (wrap64 (rd l0 x4_1)))) + 7)) 1073741823), (wrap64 (x4_1 + 1)), z11_, z11_, H', ⟨z71_⟩, ⟨z57_⟩, ⟨z0_⟩⟩
     ·rw [if_neg c4] at H
      exact absurd H (by simp)
    ·rw [if_neg c3] at H
     have c3b0 : decide (x4_1 < 4000) = false := decide_eq_false c3
     clear c3
     simp only [Option.some.injEq, Prod.mk.injEq] at H
     obtain ⟨rfl, rfl, rfl⟩ := H
     go_wp2_with (first | ((with_reducible refine gate_dst (N := 31) rfl ?_); refine box_event ?hg (N := 31) ?hd (cs := #[.slice A0 l0.length c0, .int .i64 0, .int .i64 x3_1]) (t := 189) ?hr ?_; (case hd => rfl); (case hg => rfl); (case hr => exact z110_); intro gb218 hg w5 hbox hb; have n0_ := q_ (below_step HBW.out hb); have n1_ := q_ (below_step z0_ hb); have n2_ := q_ (hbox); have n3_ := q_ ((z103_ : w.heap.size ≤ gb218)); have n4_ := q_ ((Nat.le_trans HW0.out (z103_ : w.heap.size ≤ gb218) : w0.heap.size ≤ gb218)); clear HBW; clear HB; have HBW := n0_; have HB := n1_; have BK218 := n2_; have GW218 := n3_; have GE218 := n4_; clear n0_ n1_ n2_ n3_ n4_; clear hb hbox hg))
     go_ret
     exact ⟨_, rfl, (show IsS189 w0 _ gb218 l0 0 x3_1 from ⟨_, _, by (with_reducible repeat (first | refine blk_drewN ?_ _ | refine blk_drew ?_ | refine blk_alloc ?_ _)); exact BK218.out, GE218.out, HR0.out⟩), by repeat (first | (with_reducible first | exact HB.out | apply below_alloc | apply pw_below_drewN | apply below_drew1 | refine below_set ?_ GE218.out) | exact HB.out), by repeat (first | (with_reducible first | exact HBW.out | apply below_alloc | apply pw_below_drewN | apply below_drew1 | refine below_set ?_ GW218.out) | exact HBW.out)⟩
   ·rw [if_neg c2] at H
    have c2b0 : decide (x4_1 < (l0.length : Int)) = false := decide_eq_false c2
    clear c2
    simp only [Option.some.injEq, Prod.mk.injEq] at H
    obtain ⟨rfl, rfl, rfl⟩ := H
    go_wp2_with (first | ((with_reducible refine gate_dst (N := 31) rfl ?_); refine box_event ?hg (N := 31) ?hd (cs := #[.slice A0 l0.length c0, .int .i64 0, .int .i64 x3_1]) (t := 189) ?hr ?_; (case hd => rfl); (case hg => rfl); (case hr => exact z110_); intro gb219 hg w6 hbox hb; have n0_ := q_ (below_step HBW.out hb); have n1_ := q_ (below_step z0_ hb); have n2_ := q_ (hbox); have n3_ := q_ ((z103_ : w.heap.size ≤ gb219)); have n4_ := q_ ((Nat.le_trans HW0.out (z103_ : w.heap.size ≤ gb219) : w0.heap.size ≤ gb219)); clear HBW; clear HB; have HBW := n0_; have HB := n1_; have BK219 := n2_; have GW219 := n3_; have GE219 := n4_; clear n0_ n1_ n2_ n3_ n4_; clear hb hbox hg))
    go_ret
    exact ⟨_, rfl, (show IsS189 w0 _ gb219 l0 0 x3_1 from ⟨_, _, by (with_reducible repeat (first | refine blk_drewN ?_ _ | refine blk_drew ?_ | refine blk_alloc ?_ _)); exact BK219.out, GE219.out, HR0.out⟩), by repeat (first | (with_reducible first | exact HB.out | apply below_alloc | apply pw_below_drewN | apply below_drew1 | refine below_set ?_ GE219.out) | exact HB.out), by repeat (first | (with_reducible first | exact HBW.out | apply below_alloc | apply pw_below_drewN | apply below_drew1 | refine below_set ?_ GW219.out) | exact HBW.out)⟩

/-! ### spec_l1Byte: function 169 -/
def spec_l1Byte.f (s0_0 : List Int) (s0_1 : Int) (s0_2 : Int) : Option (Int × Int × Int) := if s0_1 < (s0_0.length : Int) then (if 0 ≤ s0_1 then (some (Go.bits .and .i64 (wrap64 ((Go.bits .and .i64 (Go.bits .xor .i64 ((wrap64 ((wrap64 (s0_2 * 6364136223846793005)) + 1442695040888963407)) / 8589934592) ((wrap64 ((wrap64 (s0_2 * 6364136223846793005)) + 1442695040888963407)) / 35184372088832)) 255) + (wrap64 (rd s0_0 s0_1)))) 255, wrap64 (s0_1 + 1), wrap64 ((wrap64 (s0_2 * 6364136223846793005)) + 1442695040888963407))) else (none)) else (some (Go.bits .and .i64 (Go.bits .xor .i64 ((wrap64 ((wrap64 (s0_2 * 6364136223846793005)) + 1442695040888963407)) / 8589934592) ((wrap64 ((wrap64 (s0_2 * 6364136223846793005)) + 1442695040888963407)) / 35184372088832)) 255, s0_1, wrap64 ((wrap64 (s0_2 * 6364136223846793005)) + 1442695040888963407)))
set_option maxHeartbeats 8000000 in
set_option maxRecDepth 100000 in
theorem spec_l1Byte.calls (g : Nat) (s0_0 : List Int) (s0_1 : Int) (s0_2 : Int) (r1 : Int) (r2 : Int) (r3 : Int) (w0 w : World) (hI : IsS189 w0 w g s0_0 s0_1 s0_2) (hB : Below w0.heap.size w0 w) (h : spec_l1Byte.f s0_0 s0_1 s0_2 = some (r1, r2, r3)) :
  Calls Try.prog 169 #[.pointer (some ⟨g, 0, none⟩)] w fun e w' => e = .returned (.int .i64 r1) ∧ IsS189 w0 w' g s0_0 r2 r3 ∧ Below w0.heap.size w0 w' ∧ KeepBut w w' g none := by
 have HI0 := q_ hI
 have HK := q_ (KeepBut.refl w g none)
 have HL := q_ hB.size
 clear hI
 have HW0 := q_ hB.size
 have HB := q_ hB
 clear hB
 have H : (if s0_1 < (s0_0.length : Int) then (if 0 ≤ s0_1 then (some (Go.bits .and .i64 (wrap64 ((Go.bits .and .i64 (Go.bits .xor .i64 ((wrap64 ((wrap64 (s0_2 * 6364136223846793005)) + 1442695040888963407)) / 8589934592) ((wrap64 ((wrap64 (s0_2 * 6364136223846793005)) + 1442695040888963407)) / 35184372088832)) 255) + (wrap64 (rd s0_0 s0_1)))) 255, wrap64 (s0_1 + 1), wrap64 ((wrap64 (s0_2 * 6364136223846793005)) + 1442695040888963407))) else (none)) else (some (Go.bits .and .i64 (Go.bits .xor .i64 ((wrap64 ((wrap64 (s0_2 * 6364136223846793005)) + 1442695040888963407)) / 8589934592) ((wrap64 ((wrap64 (s0_2 * 6364136223846793005)) + 1442695040888963407)) / 35184372088832)) 255, s0_1, wrap64 ((wrap64 (s0_2 * 6364136223846793005)) + 1442695040888963407)))) = some (r1, r2, r3) := h
 clear h
 by_cases c2 : s0_1 < (s0_0.length : Int)
 ·rw [if_pos c2] at H
  have c2b0 : decide (s0_1 < (s0_0.length : Int)) = true := decide_eq_true c2
  clear c2
  by_cases c3 : 0 ≤ s0_1
  ·rw [if_pos c3] at H
   have c3b0 : decide (0 ≤ s0_1) = true := decide_eq_true c3
   clear c3
   simp only [Option.some.injEq, Prod.mk.injEq] at H
   obtain ⟨rfl, rfl, rfl⟩ := H
   obtain ⟨ASz4_0, cSz4_0, HGz4, hgz4, HSz4_0⟩ := HI0.out
   have hcz4_0 := cellS189_0 HGz4
   have hcz4_1 := cellS189_1 HGz4
   have hcz4_2 := cellS189_2 HGz4
   have hfz4_1 := blk_frozen HGz4 1
   have hfz4_2 := blk_frozen HGz4 2
   clear HGz4 hgz4
   have p220 : 0 ≤ (s0_1 : Int) := of_decide_eq_true z6_
   have q220 : s0_1 < (s0_0.length : Int) := of_decide_eq_true z6_
   obtain ⟨ad220, e220, hx220_0⟩ := Kd.at_int HSz4_0 s0_1 p220 q220
   cases e220
   have hn220_0 : ad220.block ≠ g := Nat.ne_of_lt (Nat.lt_of_lt_of_le (by have := World.block_lt_of_cell? _ _ hx220_0; first | rwa [add_block] at this | exact this) (IsS189.ge HI0.out))
   replace hx220_0 := pw_cell_below HB.out hx220_0
   replace hx220_0 := (cell_far (p := ⟨g, 2, none⟩) (by first | (rw [add_block]; exact hn220_0) | (show (Addr.add _ _).block ≠ _; rw [add_block]; exact hn220_0) | exact hn220_0) (.int .i64 (wrap64 ((wrap64 (s0_2 * 6364136223846793005)) + 1442695040888963407)))).trans hx220_0
   (try have hy220_0 := fun (n_ : Nat) => (show (((w.drewN n_).setCell ⟨g, 2, none⟩ (.int .i64 (wrap64 ((wrap64 (s0_2 * 6364136223846793005)) + 1442695040888963407))))).cell? _ = some _ from hx220_0))
   clear hn220_0
   replace p220 := eq_true p220
   replace q220 := eq_true q220
   go_enter Try.func169, Try.ntmps169
   go_wp2
   repeat (go_quiet (fail); try go_wp2)
   go_ret
   exact ⟨z5_, z4_, z9_, z3_⟩
  ·rw [if_neg c3] at H
   exact absurd H (by simp)
 ·rw [if_neg c2] at H
  have c2b0 : decide (s0_1 < (s0_0.length : Int)) = false := decide_eq_false c2
  clear c2
  simp only [Option.some.injEq, Prod.mk.injEq] at H
  obtain ⟨rfl, rfl, rfl⟩ := H
  obtain ⟨ASz5_0, cSz5_0, HGz5, hgz5, HSz5_0⟩ := HI0.out
  have hcz5_0 := cellS189_0 HGz5
  have hcz5_1 := cellS189_1 HGz5
  have hcz5_2 := cellS189_2 HGz5
  have hfz5_1 := blk_frozen HGz5 1
  have hfz5_2 := blk_frozen HGz5 2
  clear HGz5 hgz5
  go_enter Try.func169, Try.ntmps169
  go_wp2
  repeat (go_quiet (fail); try go_wp2)
  go_ret
  exact ⟨z5_, z4_, z9_, z3_⟩

/-! ### spec_l1Below: function 126 -/
def spec_l1Below.f (s0_0 : List Int) (s0_1 : Int) (s0_2 : Int) (a1 : Int) : Option (Int × Int × Int) := if a1 ≤ 0 then (some (0, s0_1, s0_2)) else (if a1 ≤ 256 then ((spec_l1Byte.f s0_0 s0_1 s0_2).bind fun bt221 => (if a1 = 0 then (none) else (some (Int.tmod bt221.1 a1, bt221.2.1, bt221.2.2)))) else ((spec_l1Byte.f s0_0 s0_1 s0_2).bind fun bt224 => ((spec_l1Byte.f s0_0 bt224.2.1 bt224.2.2).bind fun bt227 => ((spec_l1Byte.f s0_0 bt227.2.1 bt227.2.2).bind fun bt230 => ((spec_l1Byte.f s0_0 bt230.2.1 bt230.2.2).bind fun bt233 => (if a1 = 0 then (none) else (some (Int.tmod (wrap64 ((wrap64 ((wrap64 ((wrap64 (bt224.1 * 16777216)) + (wrap64 (bt227.1 * 65536)))) + (wrap64 (bt230.1 * 256)))) + bt233.1)) a1, bt233.2.1, bt233.2.2))))))))
set_option maxHeartbeats 8000000 in
set_option maxRecDepth 100000 in
theorem spec_l1Below.calls (g : Nat) (s0_0 : List Int) (s0_1 : Int) (s0_2 : Int) (a1 : Int) (r1 : Int) (r2 : Int) (r3 : Int) (w0 w : World) (hI : IsS189 w0 w g s0_0 s0_1 s0_2) (hB : Below w0.heap.size w0 w) (h : spec_l1Below.f s0_0 s0_1 s0_2 a1 = some (r1, r2, r3)) :
  Calls Try.prog 126 #[.pointer (some ⟨g, 0, none⟩), .int .i64 a1] w fun e w' => e = .returned (.int .i64 r1) ∧ IsS189 w0 w' g s0_0 r2 r3 ∧ Below w0.heap.size w0 w' ∧ KeepBut w w' g none := by
 have HI0 := q_ hI
 have HK := q_ (KeepBut.refl w g none)
 have HL := q_ hB.size
 clear hI
 have HW0 := q_ hB.size
 have HB := q_ hB
 clear hB
 have H : (if a1 ≤ 0 then (some (0, s0_1, s0_2)) else (if a1 ≤ 256 then ((spec_l1Byte.f s0_0 s0_1 s0_2).bind fun bt221 => (if a1 = 0 then (none) else (some (Int.tmod bt221.1 a1, bt221.2.1, bt221.2.2)))) else ((spec_l1Byte.f s0_0 s0_1 s0_2).bind fun bt224 => ((spec_l1Byte.f s0_0 bt224.2.1 bt224.2.2).bind fun bt227 => ((spec_l1Byte.f s0_0 bt227.2.1 bt227.2.2).bind fun bt230 => ((spec_l1Byte.f s0_0 bt230.2.1 bt230.2.2).bind fun bt233 => (if a1 = 0 then (none) else (some (Int.tmod (wrap64 ((wrap64 ((wrap64 ((wrap64 (bt224.1 * 16777216)) + (wrap64 (bt227.1 * 65536)))) + (wrap64 (bt230.1 * 256)))) + bt233.1)) a1, bt233.2.1, bt233.2.2))))))))) = some (r1, r2, r3) := h
 clear h
 by_cases c3 : a1 ≤ 0
 ·rw [if_pos c3] at H
  have c3b0 : decide (a1 ≤ 0) = true := decide_eq_true c3
  clear c3
  simp only [Option.some.injEq, Prod.mk.injEq] at H
  obtain ⟨rfl, rfl, rfl⟩ := H
  go_enter Try.func126, Try.ntmps126
  go_wp2
  go_ret
  exact ⟨z5_, z4_, z9_, z3_⟩
 ·rw [if_neg c3] at H
  have c3b0 : decide (a1 ≤ 0) = false := decide_eq_false c3
  clear c3
  by_cases c4 : a1 ≤ 256
  ·rw [if_pos c4] at H
   have c4b0 : decide (a1 ≤ 256) = true := decide_eq_true c4
   clear c4
   replace H := Option.bind_eq_some_iff.mp H
   obtain ⟨⟨t221, t222, t223⟩, A50, H⟩ := H
   replace H : (if a1 = 0 then (none) else (some (Int.tmod t221 a1, t222, t223))) = some (r1, r2, r3) := H
   have A5 := q_ A50
   clear A50
   by_cases c6 : a1 = 0
   ·rw [if_pos c6] at H
    exact absurd H (by simp)
   ·rw [if_neg c6] at H
    have c6b0 : (a1 == 0) = false := beq_eq_false_iff_ne.mpr c6
    have c6b1 : (a1 != 0) = true := bne_iff_ne.mpr c6
    simp only [Option.some.injEq, Prod.mk.injEq] at H
    obtain ⟨rfl, rfl, rfl⟩ := H
    go_enter Try.func126, Try.ntmps126
    go_wp2_with (first | ((with_reducible refine gate_callee (f := 169) rfl ?_); refine goesL_ (some 14) rfl rfl Try.func169 (by kernel_rfl) rfl #[.pointer (some ⟨g, 0, none⟩)] rfl z1_ ?_; (with_reducible refine (spec_l1Byte.calls g s0_0 s0_1 s0_2 t221 t222 t223 w0 _ ?side1 ?side2 A5.out).mono ?_); (case side1 => exact z105_); (case side2 => exact z106_); rintro e w7 ⟨rfl, hi, hb, hk⟩; refine ⟨_, rfl, ?_⟩; have n0_ := q_ (KeepBut.trans z3_ hk (.inl rfl)); have n1_ := q_ (hb); have n2_ := q_ (hi); clear HK; clear HB; clear HI0; have HK := n0_; have HB := n1_; have HI0 := n2_; clear n0_ n1_ n2_; (try clear hb); (try clear hb2); (try clear hk); (try clear hi)))
    go_ret
    exact ⟨z5_, z4_, z9_, z3_⟩
  ·rw [if_neg c4] at H
   have c4b0 : decide (a1 ≤ 256) = false := decide_eq_false c4
   clear c4
   replace H := Option.bind_eq_some_iff.mp H
   obtain ⟨⟨t224, t225, t226⟩, A80, H⟩ := H
   replace H : ((spec_l1Byte.f s0_0 t225 t226).bind fun bt227 => ((spec_l1Byte.f s0_0 bt227.2.1 bt227.2.2).bind fun bt230 => ((spec_l1Byte.f s0_0 bt230.2.1 bt230.2.2).bind fun bt233 => (if a1 = 0 then (none) else (some (Int.tmod (wrap64 ((wrap64 ((wrap64 ((wrap64 (t224 * 16777216)) + (wrap64 (bt227.1 * 65536)))) + (wrap64 (bt230.1 * 256)))) + bt233.1)) a1, bt233.2.1, bt233.2.2)))))) = some (r1, r2, r3) := H
   have A8 := q_ A80
   clear A80
   replace H := Option.bind_eq_some_iff.mp H
   obtain ⟨⟨t227, t228, t229⟩, A90, H⟩ := H
   replace H : ((spec_l1Byte.f s0_0 t228 t229).bind fun bt230 => ((spec_l1Byte.f s0_0 bt230.2.1 bt230.2.2).bind fun bt233 => (if a1 = 0 then (none) else (some (Int.tmod (wrap64 ((wrap64 ((wrap64 ((wrap64 (t224 * 16777216)) + (wrap64 (t227 * 65536)))) + (wrap64 (bt230.1 * 256)))) + bt233.1)) a1, bt233.2.1, bt233.2.2))))) = some (r1, r2, r3) := H
   have A9 := q_ A90
   clear A90
   replace H := Option.bind_eq_some_iff.mp H
   obtain ⟨⟨t230, t231, t232⟩, A100, H⟩ := H
   replace H : ((spec_l1Byte.f s0_0 t231 t232).bind fun bt233 => (if a1 = 0 then (none) else (some (Int.tmod (wrap64 ((wrap64 ((wrap64 ((wrap64 (t224 * 16777216)) + (wrap64 (t227 * 65536)))) + (wrap64 (t230 * 256)))) + bt233.1)) a1, bt233.2.1, bt233.2.2)))) = some (r1, r2, r3) := H
   have A10 := q_ A100
   clear A100
   replace H := Option.bind_eq_some_iff.mp H
   obtain ⟨⟨t233, t234, t235⟩, A110, H⟩ := H
   replace H : (if a1 = 0 then (none) else (some (Int.tmod (wrap64 ((wrap64 ((wrap64 ((wrap64 (t224 * 16777216)) + (wrap64 (t227 * 65536)))) + (wrap64 (t230 * 256)))) + t233)) a1, t234, t235))) = some (r1, r2, r3) := H
   have A11 := q_ A110
   clear A110
   by_cases c12 : a1 = 0
   ·rw [if_pos c12] at H
    exact absurd H (by simp)
   ·rw [if_neg c12] at H
    have c12b0 : (a1 == 0) = false := beq_eq_false_iff_ne.mpr c12
    have c12b1 : (a1 != 0) = true := bne_iff_ne.mpr c12
    simp only [Option.some.injEq, Prod.mk.injEq] at H
    obtain ⟨rfl, rfl, rfl⟩ := H
    go_enter Try.func126, Try.ntmps126
    go_wp2_with (first | ((with_reducible refine gate_callee (f := 169) rfl ?_); refine goesL_ (some 18) rfl rfl Try.func169 (by kernel_rfl) rfl #[.pointer (some ⟨g, 0, none⟩)] rfl z1_ ?_; (with_reducible refine (spec_l1Byte.calls g s0_0 s0_1 s0_2 t224 t225 t226 w0 _ ?side1 ?side2 A8.out).mono ?_); (case side1 => exact z105_); (case side2 => exact z106_); rintro e w13 ⟨rfl, hi, hb, hk⟩; refine ⟨_, rfl, ?_⟩; have n0_ := q_ (KeepBut.trans z3_ hk (.inl rfl)); have n1_ := q_ (hb); have n2_ := q_ (hi); clear HK; clear HB; clear HI0; have HK := n0_; have HB := n1_; have HI0 := n2_; clear n0_ n1_ n2_; (try clear hb); (try clear hb2); (try clear hk); (try clear hi)) | ((with_reducible refine gate_callee (f := 169) rfl ?_); refine goesL_ (some 20) rfl rfl Try.func169 (by kernel_rfl) rfl #[.pointer (some ⟨g, 0, none⟩)] rfl z1_ ?_; (with_reducible refine (spec_l1Byte.calls g s0_0 t225 t226 t227 t228 t229 w0 _ ?side1 ?side2 A9.out).mono ?_); (case side1 => exact z105_); (case side2 => exact z106_); rintro e w14 ⟨rfl, hi, hb, hk⟩; refine ⟨_, rfl, ?_⟩; have n0_ := q_ (KeepBut.trans z3_ hk (.inl rfl)); have n1_ := q_ (hb); have n2_ := q_ (hi); clear HK; clear HB; clear HI0; have HK := n0_; have HB := n1_; have HI0 := n2_; clear n0_ n1_ n2_; (try clear hb); (try clear hb2); (try clear hk); (try clear hi)) | ((with_reducible refine gate_callee (f := 169) rfl ?_); refine goesL_ (some 22) rfl rfl Try.func169 (by kernel_rfl) rfl #[.pointer (some ⟨g, 0, none⟩)] rfl z1_ ?_; (with_reducible refine (spec_l1Byte.calls g s0_0 t228 t229 t230 t231 t232 w0 _ ?side1 ?side2 A10.out).mono ?_); (case side1 => exact z105_); (case side2 => exact z106_); rintro e w15 ⟨rfl, hi, hb, hk⟩; refine ⟨_, rfl, ?_⟩; have n0_ := q_ (KeepBut.trans z3_ hk (.inl rfl)); have n1_ := q_ (hb); have n2_ := q_ (hi); clear HK; clear HB; clear HI0; have HK := n0_; have HB := n1_; have HI0 := n2_; clear n0_ n1_ n2_; (try clear hb); (try clear hb2); (try clear hk); (try clear hi)) | ((with_reducible refine gate_callee (f := 169) rfl ?_); refine goesL_ (some 24) rfl rfl Try.func169 (by kernel_rfl) rfl #[.pointer (some ⟨g, 0, none⟩)] rfl z1_ ?_; (with_reducible refine (spec_l1Byte.calls g s0_0 t231 t232 t233 t234 t235 w0 _ ?side1 ?side2 A11.out).mono ?_); (case side1 => exact z105_); (case side2 => exact z106_); rintro e w16 ⟨rfl, hi, hb, hk⟩; refine ⟨_, rfl, ?_⟩; have n0_ := q_ (KeepBut.trans z3_ hk (.inl rfl)); have n1_ := q_ (hb); have n2_ := q_ (hi); clear HK; clear HB; clear HI0; have HK := n0_; have HB := n1_; have HI0 := n2_; clear n0_ n1_ n2_; (try clear hb); (try clear hb2); (try clear hk); (try clear hi)))
    go_ret
    exact ⟨z5_, z4_, z9_, z3_⟩

/-! ### spec_l1PickInt: function 167 -/
def spec_l1PickInt.f (s0_0 : List Int) (s0_1 : Int) (s0_2 : Int) (l1 : List Int) : Option (Int × Int × Int) := (spec_l1Below.f s0_0 s0_1 s0_2 (l1.length : Int)).bind fun bt236 => (if 0 ≤ bt236.1 then (if bt236.1 < (l1.length : Int) then (some (rd l1 bt236.1, bt236.2.1, bt236.2.2)) else (none)) else (none))
set_option maxHeartbeats 8000000 in
set_option maxRecDepth 100000 in
theorem spec_l1PickInt.calls (g : Nat) (s0_0 : List Int) (s0_1 : Int) (s0_2 : Int) (A1 : Option Addr) (c1 : Nat) (l1 : List Int) (r1 : Int) (r2 : Int) (r3 : Int) (w0 w : World) (hI : IsS189 w0 w g s0_0 s0_1 s0_2) (hB : Below w0.heap.size w0 w) (hr1 : Kd.C (Kd.int .i64) w A1 l1.length l1) (hc1 : l1.length ≤ c1) (hf1 : ∀ ad, A1 = some ad → 0 < l1.length → ad.block ≠ g) (h : spec_l1PickInt.f s0_0 s0_1 s0_2 l1 = some (r1, r2, r3)) :
  Calls Try.prog 167 #[.pointer (some ⟨g, 0, none⟩), .slice A1 l1.length c1] w fun e w' => e = .returned (.int .i64 r1) ∧ IsS189 w0 w' g s0_0 r2 r3 ∧ Below w0.heap.size w0 w' ∧ KeepBut w w' g none := by
 have HR1 := q_ hr1
 have HC1 := q_ hc1
 clear hr1 hc1
 have HI0 := q_ hI
 have HK := q_ (KeepBut.refl w g none)
 have HL := q_ hB.size
 clear hI
 have HW0 := q_ hB.size
 have HB := q_ hB
 clear hB
 have H : ((spec_l1Below.f s0_0 s0_1 s0_2 (l1.length : Int)).bind fun bt236 => (if 0 ≤ bt236.1 then (if bt236.1 < (l1.length : Int) then (some (rd l1 bt236.1, bt236.2.1, bt236.2.2)) else (none)) else (none))) = some (r1, r2, r3) := h
 clear h
 replace H := Option.bind_eq_some_iff.mp H
 obtain ⟨⟨t236, t237, t238⟩, A30, H⟩ := H
 replace H : (if 0 ≤ t236 then (if t236 < (l1.length : Int) then (some (rd l1 t236, t237, t238)) else (none)) else (none)) = some (r1, r2, r3) := H
 have A3 := q_ A30
 clear A30
 by_cases c4 : 0 ≤ t236
 ·rw [if_pos c4] at H
  have c4b0 : decide (0 ≤ t236) = true := decide_eq_true c4
  clear c4
  by_cases c5 : t236 < (l1.length : Int)
  ·rw [if_pos c5] at H
   have c5b0 : decide (t236 < (l1.length : Int)) = true := decide_eq_true c5
   clear c5
   simp only [Option.some.injEq, Prod.mk.injEq] at H
   obtain ⟨rfl, rfl, rfl⟩ := H
   go_enter Try.func167, Try.ntmps167
   go_wp2_with (first | ((with_reducible refine gate_callee (f := 126) rfl ?_); refine goesL_ (some 9) rfl rfl Try.func126 (by kernel_rfl) rfl #[.pointer (some ⟨g, 0, none⟩), .int .i64 (l1.length : Int)] rfl z1_ ?_; (with_reducible refine (spec_l1Below.calls g s0_0 s0_1 s0_2 (l1.length : Int) t236 t237 t238 w0 _ ?side1 ?side2 A3.out).mono ?_); (case side1 => exact z105_); (case side2 => exact z106_); rintro e w6 ⟨rfl, hi, hb, hk⟩; refine ⟨_, rfl, ?_⟩; have n0_ := q_ (KeepBut.trans z3_ hk (.inl rfl)); have n1_ := q_ (hb); have n2_ := q_ (hi); clear HK; clear HB; clear HI0; have HK := n0_; have HB := n1_; have HI0 := n2_; clear n0_ n1_ n2_; (try clear hb); (try clear hb2); (try clear hk); (try clear hi); have p239 : 0 ≤ (t236 : Int) := of_decide_eq_true z6_; have q239 : t236 < (l1.length : Int) := of_decide_eq_true z6_; obtain ⟨ad239, e239, hx239_0⟩ := Kd.at_int HR1.out t236 p239 q239; cases e239; replace hx239_0 := keep_cell HK.out hx239_0 (by first | (rw [add_block]; exact hf1 _ rfl (by omega)) | exact hf1 _ rfl (by omega) | exact hf1 ad239 rfl (by omega)); replace p239 := eq_true p239; replace q239 := eq_true q239))
   go_ret
   exact ⟨z5_, z4_, z9_, z3_⟩
  ·rw [if_neg c5] at H
   exact absurd H (by simp)
 ·rw [if_neg c4] at H
  exact absurd H (by simp)

/-! ### spec_l1Once: function 135 -/
def spec_l1Once.f (s0_0 : List Int) (s0_1 : Int) (s0_2 : Int) (a1 : Int) : Option (Bool × Int × Int) := (spec_l1Below.f s0_0 s0_1 s0_2 a1).bind fun bt240 => (some ((bt240.1 == 0), bt240.2.1, bt240.2.2))
set_option maxHeartbeats 8000000 in
set_option maxRecDepth 100000 in
theorem spec_l1Once.calls (g : Nat) (s0_0 : List Int) (s0_1 : Int) (s0_2 : Int) (a1 : Int) (r1 : Bool) (r2 : Int) (r3 : Int) (w0 w : World) (hI : IsS189 w0 w g s0_0 s0_1 s0_2) (hB : Below w0.heap.size w0 w) (h : spec_l1Once.f s0_0 s0_1 s0_2 a1 = some (r1, r2, r3)) :
  Calls Try.prog 135 #[.pointer (some ⟨g, 0, none⟩), .int .i64 a1] w fun e w' => e = .returned (.bool r1) ∧ IsS189 w0 w' g s0_0 r2 r3 ∧ Below w0.heap.size w0 w' ∧ KeepBut w w' g none := by
 have HI0 := q_ hI
 have HK := q_ (KeepBut.refl w g none)
 have HL := q_ hB.size
 clear hI
 have HW0 := q_ hB.size
 have HB := q_ hB
 clear hB
 have H : ((spec_l1Below.f s0_0 s0_1 s0_2 a1).bind fun bt240 => (some ((bt240.1 == 0), bt240.2.1, bt240.2.2))) = some (r1, r2, r3) := h
 clear h
 replace H := Option.bind_eq_some_iff.mp H
 obtain ⟨⟨t240, t241, t242⟩, A30, H⟩ := H
 replace H : (some ((t240 == 0), t241, t242)) = some (r1, r2, r3) := H
 have A3 := q_ A30
 clear A30
 simp only [Option.some.injEq, Prod.mk.injEq] at H
 obtain ⟨rfl, rfl, rfl⟩ := H
 go_enter Try.func135, Try.ntmps135
 go_wp2_with (first | ((with_reducible refine gate_callee (f := 126) rfl ?_); refine goesL_ (some 7) rfl rfl Try.func126 (by kernel_rfl) rfl #[.pointer (some ⟨g, 0, none⟩), .int .i64 a1] rfl z1_ ?_; (with_reducible refine (spec_l1Below.calls g s0_0 s0_1 s0_2 a1 t240 t241 t242 w0 _ ?side1 ?side2 A3.out).mono ?_); (case side1 => exact z105_); (case side2 => exact z106_); rintro e w4 ⟨rfl, hi, hb, hk⟩; refine ⟨_, rfl, ?_⟩; have n0_ := q_ (KeepBut.trans z3_ hk (.inl rfl)); have n1_ := q_ (hb); have n2_ := q_ (hi); clear HK; clear HB; clear HI0; have HK := n0_; have HB := n1_; have HI0 := n2_; clear n0_ n1_ n2_; (try clear hb); (try clear hb2); (try clear hk); (try clear hi)))
 go_ret
 exact ⟨z5_, z4_, z9_, z3_⟩

/-! ### spec_l1DrawKey: function 141 -/
def spec_l1DrawKey.f (s0_0 : List Int) (s0_1 : Int) (s0_2 : Int) : Option (Int × Int × Int) := (spec_l1Once.f s0_0 s0_1 s0_2 15).bind fun bt243 => (if bt243.1 = true then ((spec_l1PickInt.f s0_0 bt243.2.1 bt243.2.2 (([0, 999, 500] : List Int))).bind fun bt249 => (some (bt249.1, bt249.2.1, bt249.2.2))) else ((spec_l1Below.f s0_0 bt243.2.1 bt243.2.2 30).bind fun bt252 => (some (bt252.1, bt252.2.1, bt252.2.2))))
set_option maxHeartbeats 8000000 in
set_option maxRecDepth 100000 in
theorem spec_l1DrawKey.calls (g : Nat) (s0_0 : List Int) (s0_1 : Int) (s0_2 : Int) (r1 : Int) (r2 : Int) (r3 : Int) (w0 w : World) (hI : IsS189 w0 w g s0_0 s0_1 s0_2) (hB : Below w0.heap.size w0 w) (h : spec_l1DrawKey.f s0_0 s0_1 s0_2 = some (r1, r2, r3)) :
  Calls Try.prog 141 #[.pointer (some ⟨g, 0, none⟩)] w fun e w' => e = .returned (.int .i64 r1) ∧ IsS189 w0 w' g s0_0 r2 r3 ∧ Below w0.heap.size w0 w' ∧ KeepBut w w' g none := by
 have HI0 := q_ hI
 have HK := q_ (KeepBut.refl w g none)
 have HL := q_ hB.size
 clear hI
 have HW0 := q_ hB.size
 have HB := q_ hB
 clear hB
 have H : ((spec_l1Once.f s0_0 s0_1 s0_2 15).bind fun bt243 => (if bt243.1 = true then ((spec_l1PickInt.f s0_0 bt243.2.1 bt243.2.2 (([0, 999, 500] : List Int))).bind fun bt249 => (some (bt249.1, bt249.2.1, bt249.2.2))) else ((spec_l1Below.f s0_0 bt243.2.1 bt243.2.2 30).bind fun bt252 => (some (bt252.1, bt252.2.1, bt252.2.2))))) = some (r1, r2, r3) := h
 clear h
 replace H := Option.bind_eq_some_iff.mp H
 obtain ⟨⟨t243, t244, t245⟩, A20, H⟩ := H
 replace H : (if t243 = true then ((spec_l1PickInt.f s0_0 t244 t245 (([0, 999, 500] : List Int))).bind fun bt249 => (some (bt249.1, bt249.2.1, bt249.2.2))) else ((spec_l1Below.f s0_0 t244 t245 30).bind fun bt252 => (some (bt252.1, bt252.2.1, bt252.2.2)))) = some (r1, r2, r3) := H
 have A2 := q_ A20
 clear A20
 by_cases c3 : t243 = true
 ·subst c3
  have H1 : ((spec_l1PickInt.f s0_0 t244 t245 (([0, 999, 500] : List Int))).bind fun bt249 => (some (bt249.1, bt249.2.1, bt249.2.2))) = some (r1, r2, r3) := z49_
  clear H
  have H := H1
  clear H1
  obtain ⟨y246, hy246⟩ : ∃ y_ : List Int, y_ = (([0, 999, 500] : List Int)) := ⟨_, rfl⟩
  replace H : ((spec_l1PickInt.f s0_0 t244 t245 y246).bind fun bt249 => (some (bt249.1, bt249.2.1, bt249.2.2))) = some (r1, r2, r3) := by first | (rw [hy246]; with_reducible exact H) | (have H2_ := (Option.bind_some _ _).symm.trans H; rw [hy246]; with_reducible exact H2_) | (have H2_ := (Option.bind_some _ _).symm.trans H; with_reducible exact H2_) | with_reducible exact H | (rw [hy246]; exact H) | exact H
  have Ny246 := q_ hy246
  clear hy246
  replace H := Option.bind_eq_some_iff.mp H
  obtain ⟨⟨t249, t250, t251⟩, A40, H⟩ := H
  replace H : (some (t249, t250, t251)) = some (r1, r2, r3) := H
  have A4 := q_ A40
  clear A40
  simp only [Option.some.injEq, Prod.mk.injEq] at H
  obtain ⟨rfl, rfl, rfl⟩ := H
  go_enter Try.func141, Try.ntmps141
  go_wp2_with (first | ((with_reducible refine gate_callee (f := 135) rfl ?_); refine goesL_ (some 4) rfl rfl Try.func135 (by kernel_rfl) rfl #[.pointer (some ⟨g, 0, none⟩), .int .i64 15] rfl z1_ ?_; (with_reducible refine (spec_l1Once.calls g s0_0 s0_1 s0_2 15 true t244 t245 w0 _ ?side1 ?side2 A2.out).mono ?_); (case side1 => exact z105_); (case side2 => exact z106_); rintro e w5 ⟨rfl, hi, hb, hk⟩; refine ⟨_, rfl, ?_⟩; have n0_ := q_ (KeepBut.trans z3_ hk (.inl rfl)); have n1_ := q_ (hb); have n2_ := q_ (hi); clear HK; clear HB; clear HI0; have HK := n0_; have HB := n1_; have HI0 := n2_; clear n0_ n1_ n2_; (try clear hb); (try clear hb2); (try clear hk); (try clear hi)) | ((with_reducible refine gate_dst (N := 6) rfl ?_); refine Kd.R_lit (Kd.int .i64) _ 3 ?hg (N := 6) ?hd (xs := ([0, 999, 500] : List Int)) (inner := [.int .i64 0, .int .i64 999, .int .i64 500]) (ok := fun _ => True) (okp := fun _ => True) ?hr ?hp (fun _ hk => hk) trivial (Below.refl _ _) (Nat.le_refl _) (by simp) ?_; (case hd => rfl); (case hg => rfl); (case hr => exact z110_); (case hp => exact (Reps.one (show Kd.M (Kd.int .i64) _ _ _ 0 [.int .i64 0] from rfl) (Reps.one (show Kd.M (Kd.int .i64) _ _ _ 999 [.int .i64 999] from rfl) (Reps.one (show Kd.M (Kd.int .i64) _ _ _ 500 [.int .i64 500] from rfl) (Reps.none _ _))))); intro v247 w6 ho7 hb hg_ hnew_; clear hg_ hnew_; (first | rw [← Ny246.out] at ho7 | (simp only [Int.reduceToNat] at ho7; rw [← Ny246.out] at ho7)); have n0_ := q_ (Kd.R_lower ho7 (keep_size (w := w) (g := g) (row := none) z3_)); have n1_ := q_ (IsS189.below z4_ hb); have n2_ := q_ (KeepBut.trans z3_ (KeepBut.of_below hb g none) (.inl rfl)); have n3_ := q_ (below_step z9_ hb); clear HI0; clear HK; clear HB; have HO248 := n0_; have HI0 := n1_; have HK := n2_; have HB := n3_; clear n0_ n1_ n2_ n3_; clear hb ho7; obtain ⟨Ao8, co8, eo8⟩ := Kd.R_slice HO248.out; subst eo8) | ((with_reducible refine gate_callee (f := 167) rfl ?_); refine goesL_ (some 7) rfl rfl Try.func167 (by kernel_rfl) rfl #[.pointer (some ⟨g, 0, none⟩), .slice Ao8 y246.length co8] rfl z1_ ?_; (with_reducible refine (spec_l1PickInt.calls g s0_0 t244 t245 _ _ y246 t249 t250 t251 w0 _ ?side1 ?side2 ?side3 ?side4 ?side5 A4.out).mono ?_); (case side1 => exact z105_); (case side2 => exact z106_); (case side3 => repeat (first | exact (Kd.R_reads' HO248.out).2.2 | (with_reducible refine Kd.C_alloc ?_ _) | (with_reducible refine Kd.C_drewN ?_ _) | (with_reducible refine Kd.C_drew ?_))); (case side4 => exact (Kd.R_reads' HO248.out).2.1); (case side5 => exact far_slice (IsS189.own_ne HI0.out HO248.out (by decide))); rintro e w9 ⟨rfl, hi, hb, hk⟩; refine ⟨_, rfl, ?_⟩; have n0_ := q_ (Kd.R_mono (Kd.R_keep (IsS189.apart (show IsS189 w0 _ g s0_0 t244 t245 from z4_) (by (with_reducible repeat (first | apply Kd.R_alloc | apply Kd.R_drewN | apply Kd.R_drew)); exact HO248.out) (by decide)) hk (fun _ h => h.2)) (fun _ h => h.1)); have n1_ := q_ (KeepBut.trans z3_ hk (.inl rfl)); have n2_ := q_ (hb); have n3_ := q_ (hi); clear HO248; clear HK; clear HB; clear HI0; have HO248 := n0_; have HK := n1_; have HB := n2_; have HI0 := n3_; clear n0_ n1_ n2_ n3_; (try clear hb); (try clear hb2); (try clear hk); (try clear hi)))
  go_ret
  exact ⟨z5_, z4_, z9_, z3_⟩
 ·replace c3 := Bool.eq_false_iff.mpr c3
  subst c3
  have H1 : ((spec_l1Below.f s0_0 t244 t245 30).bind fun bt252 => (some (bt252.1, bt252.2.1, bt252.2.2))) = some (r1, r2, r3) := by rw [if_neg (show ¬ (false = true) by decide)] at H; exact H
  clear H
  have H := H1
  clear H1
  replace H := Option.bind_eq_some_iff.mp H
  obtain ⟨⟨t252, t253, t254⟩, A100, H⟩ := H
  replace H : (some (t252, t253, t254)) = some (r1, r2, r3) := H
  have A10 := q_ A100
  clear A100
  simp only [Option.some.injEq, Prod.mk.injEq] at H
  obtain ⟨rfl, rfl, rfl⟩ := H
  go_enter Try.func141, Try.ntmps141
  go_wp2_with (first | ((with_reducible refine gate_callee (f := 135) rfl ?_); refine goesL_ (some 4) rfl rfl Try.func135 (by kernel_rfl) rfl #[.pointer (some ⟨g, 0, none⟩), .int .i64 15] rfl z1_ ?_; (with_reducible refine (spec_l1Once.calls g s0_0 s0_1 s0_2 15 false t244 t245 w0 _ ?side1 ?side2 A2.out).mono ?_); (case side1 => exact z105_); (case side2 => exact z106_); rintro e w11 ⟨rfl, hi, hb, hk⟩; refine ⟨_, rfl, ?_⟩; have n0_ := q_ (KeepBut.trans z3_ hk (.inl rfl)); have n1_ := q_ (hb); have n2_ := q_ (hi); clear HK; clear HB; clear HI0; have HK := n0_; have HB := n1_; have HI0 := n2_; clear n0_ n1_ n2_; (try clear hb); (try clear hb2); (try clear hk); (try clear hi)) | ((with_reducible refine gate_callee (f := 126) rfl ?_); refine goesL_ (some 9) rfl rfl Try.func126 (by kernel_rfl) rfl #[.pointer (some ⟨g, 0, none⟩), .int .i64 30] rfl z1_ ?_; (with_reducible refine (spec_l1Below.calls g s0_0 t244 t245 30 t252 t253 t254 w0 _ ?side1 ?side2 A10.out).mono ?_); (case side1 => exact z105_); (case side2 => exact z106_); rintro e w12 ⟨rfl, hi, hb, hk⟩; refine ⟨_, rfl, ?_⟩; have n0_ := q_ (KeepBut.trans z3_ hk (.inl rfl)); have n1_ := q_ (hb); have n2_ := q_ (hi); clear HK; clear HB; clear HI0; have HK := n0_; have HB := n1_; have HI0 := n2_; clear n0_ n1_ n2_; (try clear hb); (try clear hb2); (try clear hk); (try clear hi)))
  go_ret
  exact ⟨z5_, z4_, z9_, z3_⟩

/-! ### spec_l1DrawMap: function 174 -/
def spec_l1DrawMap.l0 : Nat → List (S147) → Int → Int → List Int → Int → Int → Option ((List (S147)) × Int × Int)
 | 0, _, _, _, _, _, _ => none
 | k + 1, x5, x6, x7, x1000, x1001, x1002 => if x7 < x6 then ((spec_l1DrawKey.f x1000 x1001 x1002).bind fun bt261 => ((spec_l1Below.f x1000 bt261.2.1 bt261.2.2 50).bind fun bt264 => ((spec_l1Put.f k x5 bt261.1 (wrap64 (bt264.1 - 9))).bind fun t267 => (spec_l1DrawMap.l0 k t267 x6 (wrap64 (x7 + 1)) x1000 bt264.2.1 bt264.2.2)))) else (some (x5, x1001, x1002))
def spec_l1DrawMap.f (k : Nat) (s0_0 : List Int) (s0_1 : Int) (s0_2 : Int) (a1 : Int) : Option ((List (S147)) × Int × Int) := (spec_l1Below.f s0_0 s0_1 s0_2 (wrap64 (a1 + 1))).bind fun bt258 => (spec_l1DrawMap.l0 k (([] : List (S147))) bt258.1 0 s0_0 bt258.2.1 bt258.2.2)
theorem spec_l1DrawMap.mono_l : ∀ k, (∀ y0 y1 y2 y3 y4 y5, LeO (spec_l1DrawMap.l0 k y0 y1 y2 y3 y4 y5) (spec_l1DrawMap.l0 (k + 1) y0 y1 y2 y3 y4 y5))
 | 0 => fun _ _ _ _ _ _ r h => by simp [spec_l1DrawMap.l0] at h
 | k + 1 => by
  have ih0 := spec_l1DrawMap.mono_l k
  ·intro y0 y1 y2 y3 y4 y5
   unfold spec_l1DrawMap.l0
   repeat' first
   | (with_reducible exact ih0 _ _ _ _ _ _)
   | (with_reducible exact spec_l1Put.mono _ _ _ _)
   | (with_reducible exact LeO.refl _)
   | (with_reducible exact LeO.none _)
   | (with_reducible refine LeO.ite ?_ ?_)
   | (with_reducible refine LeO.bind ?_ (fun _ => ?_))
   | exact ih0 _ _ _ _ _ _
   | exact spec_l1Put.mono _ _ _ _
   | exact LeO.none _
   | refine LeO.ite ?_ ?_
   | refine LeO.bind ?_ (fun _ => ?_)
theorem spec_l1DrawMap.mono : ∀ a0 a1 a2 a3 k, LeO (spec_l1DrawMap.f k a0 a1 a2 a3) (spec_l1DrawMap.f (k + 1) a0 a1 a2 a3) := by
 intro a0 a1 a2 a3 k
 have ih0 := spec_l1DrawMap.mono_l k
 unfold spec_l1DrawMap.f
 repeat' first
   | (with_reducible exact ih0 _ _ _ _ _ _)
   | (with_reducible exact spec_l1Put.mono _ _ _ _)
   | (with_reducible exact LeO.refl _)
   | (with_reducible exact LeO.none _)
   | (with_reducible refine LeO.ite ?_ ?_)
   | (with_reducible refine LeO.bind ?_ (fun _ => ?_))
   | exact ih0 _ _ _ _ _ _
   | exact spec_l1Put.mono _ _ _ _
   | exact LeO.none _
   | refine LeO.ite ?_ ?_
   | refine LeO.bind ?_ (fun _ => ?_)
set_option maxHeartbeats 8000000 in
set_option maxRecDepth 100000 in
theorem spec_l1DrawMap.calls (k : Nat) (g : Nat) (s0_0 : List Int) (s0_1 : Int) (s0_2 : Int) (a1 : Int) (r1 : List (S147)) (r2 : Int) (r3 : Int) (w0 w : World) (hI : IsS189 w0 w g s0_0 s0_1 s0_2) (hB : Below w0.heap.size w0 w) (h : spec_l1DrawMap.f k s0_0 s0_1 s0_2 a1 = some (r1, r2, r3)) :
  Calls Try.prog 174 #[.pointer (some ⟨g, 0, none⟩), .int .i64 a1] w fun e w' => ∃ v0_ : Value, e = .returned (v0_) ∧ Kd.R k147 147 w' w.heap.size (fun _ => True) v0_ r1 ∧ IsS189 w0 w' g s0_0 r2 r3 ∧ Below w0.heap.size w0 w' ∧ KeepBut w w' g none := by
 have HI0 := q_ hI
 have HK := q_ (KeepBut.refl w g none)
 have HL := q_ hB.size
 clear hI
 have HW0 := q_ hB.size
 have HB := q_ hB
 clear hB
 have H : ((spec_l1Below.f s0_0 s0_1 s0_2 (wrap64 (a1 + 1))).bind fun bt258 => (spec_l1DrawMap.l0 k (([] : List (S147))) bt258.1 0 s0_0 bt258.2.1 bt258.2.2)) = some (r1, r2, r3) := h
 clear h
 obtain ⟨y255, hy255⟩ : ∃ y_ : List (S147), y_ = (([] : List (S147))) := ⟨_, rfl⟩
 replace H : ((spec_l1Below.f s0_0 s0_1 s0_2 (wrap64 (a1 + 1))).bind fun bt258 => (spec_l1DrawMap.l0 k y255 bt258.1 0 s0_0 bt258.2.1 bt258.2.2)) = some (r1, r2, r3) := by first | (rw [hy255]; with_reducible exact H) | (have H2_ := (Option.bind_some _ _).symm.trans H; rw [hy255]; with_reducible exact H2_) | (have H2_ := (Option.bind_some _ _).symm.trans H; with_reducible exact H2_) | with_reducible exact H | (rw [hy255]; exact H) | exact H
 have Ny255 := q_ hy255
 clear hy255
 replace H := Option.bind_eq_some_iff.mp H
 obtain ⟨⟨t258, t259, t260⟩, A30, H⟩ := H
 replace H : (spec_l1DrawMap.l0 k y255 t258 0 s0_0 t259 t260) = some (r1, r2, r3) := H
 have A3 := q_ A30
 clear A30
 have H' := q_ H
 clear H
 go_enter Try.func174, Try.ntmps174
 go_wp2_with (first | ((with_reducible refine gate_dst (N := 8) rfl ?_); refine Kd.R_lit k147 _ 147 ?hg (N := 8) ?hd (xs := ([] : List (S147))) (inner := []) (ok := fun _ => True) (okp := fun _ => True) ?hr ?hp (fun _ hk => hk) trivial (Below.refl _ _) (Nat.le_refl _) (by simp) ?_; (case hd => rfl); (case hg => rfl); (case hr => exact z110_); (case hp => exact (Reps.none _ _)); intro v256 w4 ho5 hb hg_ hnew_; clear hg_ hnew_; (first | rw [← Ny255.out] at ho5 | (simp only [Int.reduceToNat] at ho5; rw [← Ny255.out] at ho5)); have n0_ := q_ (Kd.R_lower ho5 (keep_size (w := w) (g := g) (row := none) z3_)); have n1_ := q_ (IsS189.below z4_ hb); have n2_ := q_ (KeepBut.trans z3_ (KeepBut.of_below hb g none) (.inl rfl)); have n3_ := q_ (below_step z9_ hb); clear HI0; clear HK; clear HB; have HO257 := n0_; have HI0 := n1_; have HK := n2_; have HB := n3_; clear n0_ n1_ n2_ n3_; clear hb ho5) | ((with_reducible refine gate_callee (f := 126) rfl ?_); refine goesL_ (some 12) rfl rfl Try.func126 (by kernel_rfl) rfl #[.pointer (some ⟨g, 0, none⟩), .int .i64 (wrap64 (a1 + 1))] rfl z1_ ?_; (with_reducible refine (spec_l1Below.calls g s0_0 s0_1 s0_2 (wrap64 (a1 + 1)) t258 t259 t260 w0 _ ?side1 ?side2 A3.out).mono ?_); (case side1 => exact z105_); (case side2 => exact z106_); rintro e w6 ⟨rfl, hi, hb, hk⟩; refine ⟨_, rfl, ?_⟩; have n0_ := q_ (Kd.R_mono (Kd.R_keep (IsS189.apart (show IsS189 w0 _ g s0_0 s0_1 s0_2 from z4_) z75_ (by decide)) hk (fun _ h => h.2)) (fun _ h => h.1)); have n1_ := q_ (KeepBut.trans z3_ hk (.inl rfl)); have n2_ := q_ (hb); have n3_ := q_ (hi); clear HO257; clear HK; clear HB; clear HI0; have HO257 := n0_; have HK := n1_; have HB := n2_; have HI0 := n3_; clear n0_ n1_ n2_ n3_; (try clear hb); (try clear hb2); (try clear hk); (try clear hi)))
 go_loopg [5, 7] k (fun kq v5 v7 w' => ∃ (x5_1 : List (S147)) (x7_1 : Int) (x1001_1 : Int) (x1002_1 : Int), v7 = .int .i64 x7_1 ∧ Aside0 (spec_l1DrawMap.l0 kq x5_1 t258 x7_1 s0_0 x1001_1 x1002_1 = some (r1, r2, r3)) ∧ Aside0 (kq ≤ k) ∧ Aside0 (Kd.R k147 147 w' w.heap.size (fun _ => True) v5 x5_1) ∧ Aside0 (IsS189 w0 w' g s0_0 x1001_1 x1002_1) ∧ Aside0 (KeepBut w w' g none) ∧ Aside0 (Below w0.heap.size w0 w'))
 case atStart => exact ⟨(y255), (0), (t259), (t260), z11_, H', ⟨Nat.le_refl _⟩, ⟨z75_⟩, ⟨z4_⟩, ⟨z3_⟩, ⟨z9_⟩⟩
 case round =>
  clear H'
  try clear c1
  try clear p2
  try clear p6
  obtain ⟨x5_1, x7_1, x1001_1, x1002_1, rfl, HA, HK1, HO_5, HI0, HK, HB⟩ := hrel
  cases gk with
  | zero => exact absurd HA.out (by simp [spec_l1DrawMap.l0])
  | succ k1 =>
   have H := HA.out
   clear HA
   simp only [spec_l1DrawMap.l0] at H
   by_cases c7 : x7_1 < t258
   ·rw [if_pos c7] at H
    have c7b0 : decide (x7_1 < t258) = true := decide_eq_true c7
    clear c7
    replace H := Option.bind_eq_some_iff.mp H
    obtain ⟨⟨t261, t262, t263⟩, A80, H⟩ := H
    replace H : ((spec_l1Below.f s0_0 t262 t263 50).bind fun bt264 => ((spec_l1Put.f k1 x5_1 t261 (wrap64 (bt264.1 - 9))).bind fun t267 => (spec_l1DrawMap.l0 k1 t267 t258 (wrap64 (x7_1 + 1)) s0_0 bt264.2.1 bt264.2.2))) = some (r1, r2, r3) := H
    have A8 := q_ A80
    clear A80
    replace H := Option.bind_eq_some_iff.mp H
    obtain ⟨⟨t264, t265, t266⟩, A90, H⟩ := H
    replace H : ((spec_l1Put.f k1 x5_1 t261 (wrap64 (t264 - 9))).bind fun t267 => (spec_l1DrawMap.l0 k1 t267 t258 (wrap64 (x7_1 + 1)) s0_0 t265 t266)) = some (r1, r2, r3) := H
    have A9 := q_ A90
    clear A90
    replace H := Option.bind_eq_some_iff.mp H
    obtain ⟨t267, A100, H⟩ := H
    replace H : (spec_l1DrawMap.l0 k1 t267 t258 (wrap64 (x7_1 + 1)) s0_0 t265 t266) = some (r1, r2, r3) := H
    have A10 := q_ A100
    clear A100
    have H' := q_ H
    clear H
    go_wp2_with (first | ((with_reducible refine gate_callee (f := 141) rfl ?_); refine goesL_ (some 20) rfl rfl Try.func141 (by kernel_rfl) rfl #[.pointer (some ⟨g, 0, none⟩)] rfl z1_ ?_; (with_reducible refine (spec_l1DrawKey.calls g s0_0 x1001_1 x1002_1 t261 t262 t263 w0 _ ?side1 ?side2 A8.out).mono ?_); (case side1 => exact z105_); (case side2 => exact z106_); rintro e w11 ⟨rfl, hi, hb, hk⟩; refine ⟨_, rfl, ?_⟩; have n0_ := q_ (Kd.R_mono (Kd.R_keep (IsS189.apart (show IsS189 w0 _ g s0_0 x1001_1 x1002_1 from z4_) z8_ (by decide)) hk (fun _ h => h.2)) (fun _ h => h.1)); have n1_ := q_ (KeepBut.trans z3_ hk (.inl rfl)); have n2_ := q_ (hb); have n3_ := q_ (hi); clear HO_5; clear HK; clear HB; clear HI0; have HO_5 := n0_; have HK := n1_; have HB := n2_; have HI0 := n3_; clear n0_ n1_ n2_ n3_; (try clear hb); (try clear hb2); (try clear hk); (try clear hi)) | ((with_reducible refine gate_callee (f := 126) rfl ?_); refine goesL_ (some 22) rfl rfl Try.func126 (by kernel_rfl) rfl #[.pointer (some ⟨g, 0, none⟩), .int .i64 50] rfl z1_ ?_; (with_reducible refine (spec_l1Below.calls g s0_0 t262 t263 50 t264 t265 t266 w0 _ ?side1 ?side2 A9.out).mono ?_); (case side1 => exact z105_); (case side2 => exact z106_); rintro e w12 ⟨rfl, hi, hb, hk⟩; refine ⟨_, rfl, ?_⟩; have n0_ := q_ (Kd.R_mono (Kd.R_keep (IsS189.apart (show IsS189 w0 _ g s0_0 t262 t263 from z4_) z8_ (by decide)) hk (fun _ h => h.2)) (fun _ h => h.1)); have n1_ := q_ (KeepBut.trans z3_ hk (.inl rfl)); have n2_ := q_ (hb); have n3_ := q_ (hi); clear HO_5; clear HK; clear HB; clear HI0; have HO_5 := n0_; have HK := n1_; have HB := n2_; have HI0 := n3_; clear n0_ n1_ n2_ n3_; (try clear hb); (try clear hb2); (try clear hk); (try clear hi); obtain ⟨Ao13, co13, eo13⟩ := Kd.R_slice HO_5.out; subst eo13) | ((with_reducible refine gate_callee (f := 127) rfl ?_); refine goesL_ (some 24) rfl rfl Try.func127 (by kernel_rfl) rfl #[.slice Ao13 x5_1.length co13, .int .i64 t261, .int .i64 (wrap64 (t264 - 9))] rfl z1_ ?_; (with_reducible refine (spec_l1Put.calls k1 _ _ x5_1 t261 (wrap64 (t264 - 9)) t267 _ ?side1 ?side2 A10.out).mono ?_); (case side1 => exact z107_); (case side2 => exact z121_); rintro e w14 ⟨v268, rfl, ho0, hb⟩; refine ⟨_, rfl, ?_⟩; have n0_ := q_ (Kd.R_elder' z8_ (Kd.R_base ho0) hb); have n1_ := q_ (Kd.R_lower (Kd.R_new' ho0 (Kd.R_lt z8_)) (keep_size (w := w) (g := g) (row := none) z3_)); have n2_ := q_ (IsS189.below z4_ hb); have n3_ := q_ (KeepBut.trans z3_ (KeepBut.of_below hb g none) (.inl rfl)); have n4_ := q_ (below_step z9_ hb); clear HO_5; clear HI0; clear HK; clear HB; have HO_5 := n0_; have HO269 := n1_; have HI0 := n2_; have HK := n3_; have HB := n4_; clear n0_ n1_ n2_ n3_ n4_; (try clear hb); (try clear hb2); (try clear hk); (try clear hi); (try clear ho0)))
    go_roundg k1
    case measure => have := HK1.out; omega
    case rel => exact ⟨(t267), (wrap64 (x7_1 + 1)), (t265), (t266), z11_, H', ⟨z71_⟩, ⟨by (with_reducible repeat (first | apply Kd.R_alloc | apply Kd.R_drewN | apply Kd.R_drew)); exact Kd.R_mono HO269.out (fun _ hk => trivial)⟩, ⟨z4_⟩, ⟨z3_⟩, ⟨z9_⟩⟩
   ·rw [if_neg c7] at H
    have c7b0 : decide (x7_1 < t258) = false := decide_eq_false c7
    clear c7
    simp only [Option.some.injEq, Prod.mk.injEq] at H
    obtain ⟨rfl, rfl, rfl⟩ := H
    go_wp2
    go_ret
    exact ⟨_, z5_, z8_, z4_, z9_, z3_⟩

/-! ### spec_l1DrawBadMap: function 133 -/
def spec_l1DrawBadMap.f (k : Nat) (s0_0 : List Int) (s0_1 : Int) (s0_2 : Int) : Option ((List (S147)) × Int × Int) := (spec_l1DrawMap.f k s0_0 s0_1 s0_2 8).bind fun bt270 => ((spec_l1Below.f s0_0 bt270.2.1 bt270.2.2 15).bind fun bt275 => (if bt275.1 = 0 then ((spec_l1Below.f s0_0 bt275.2.1 bt275.2.2 9).bind fun bt278 => (if bt270.1.length < 8796093022208 then (some ((bt270.1 ++ [(⟨bt278.1, 0⟩ : S147)]), bt278.2.1, bt278.2.2)) else (none))) else (if bt275.1 = 1 then ((spec_l1PickInt.f s0_0 bt275.2.1 bt275.2.2 (([1000000000, 1000000001] : List Int))).bind fun bt287 => (if bt270.1.length < 8796093022208 then (some ((bt270.1 ++ [(⟨999, bt287.1⟩ : S147)]), bt287.2.1, bt287.2.2)) else (none))) else (some (bt270.1, bt275.2.1, bt275.2.2)))))
theorem spec_l1DrawBadMap.mono : ∀ a0 a1 a2 k, LeO (spec_l1DrawBadMap.f k a0 a1 a2) (spec_l1DrawBadMap.f (k + 1) a0 a1 a2) := by
 intro a0 a1 a2 k
 unfold spec_l1DrawBadMap.f
 repeat' first
   | (with_reducible exact spec_l1DrawMap.mono _ _ _ _ _)
   | (with_reducible exact LeO.refl _)
   | (with_reducible exact LeO.none _)
   | (with_reducible refine LeO.ite ?_ ?_)
   | (with_reducible refine LeO.bind ?_ (fun _ => ?_))
   | exact spec_l1DrawMap.mono _ _ _ _ _
   | exact LeO.none _
   | refine LeO.ite ?_ ?_
   | refine LeO.bind ?_ (fun _ => ?_)
set_option maxHeartbeats 8000000 in
set_option maxRecDepth 100000 in
theorem spec_l1DrawBadMap.calls (k : Nat) (g : Nat) (s0_0 : List Int) (s0_1 : Int) (s0_2 : Int) (r1 : List (S147)) (r2 : Int) (r3 : Int) (w0 w : World) (hI : IsS189 w0 w g s0_0 s0_1 s0_2) (hB : Below w0.heap.size w0 w) (h : spec_l1DrawBadMap.f k s0_0 s0_1 s0_2 = some (r1, r2, r3)) :
  Calls Try.prog 133 #[.pointer (some ⟨g, 0, none⟩)] w fun e w' => ∃ v0_ : Value, e = .returned (v0_) ∧ Kd.R k147 147 w' w.heap.size (fun _ => True) v0_ r1 ∧ IsS189 w0 w' g s0_0 r2 r3 ∧ Below w0.heap.size w0 w' ∧ KeepBut w w' g none := by
 have hu147 := Try.underlying147
 have HI0 := q_ hI
 have HK := q_ (KeepBut.refl w g none)
 have HL := q_ hB.size
 clear hI
 have HW0 := q_ hB.size
 have HB := q_ hB
 clear hB
 have H : ((spec_l1DrawMap.f k s0_0 s0_1 s0_2 8).bind fun bt270 => ((spec_l1Below.f s0_0 bt270.2.1 bt270.2.2 15).bind fun bt275 => (if bt275.1 = 0 then ((spec_l1Below.f s0_0 bt275.2.1 bt275.2.2 9).bind fun bt278 => (if bt270.1.length < 8796093022208 then (some ((bt270.1 ++ [(⟨bt278.1, 0⟩ : S147)]), bt278.2.1, bt278.2.2)) else (none))) else (if bt275.1 = 1 then ((spec_l1PickInt.f s0_0 bt275.2.1 bt275.2.2 (([1000000000, 1000000001] : List Int))).bind fun bt287 => (if bt270.1.length < 8796093022208 then (some ((bt270.1 ++ [(⟨999, bt287.1⟩ : S147)]), bt287.2.1, bt287.2.2)) else (none))) else (some (bt270.1, bt275.2.1, bt275.2.2)))))) = some (r1, r2, r3) := h
 clear h
 replace H := Option.bind_eq_some_iff.mp H
 obtain ⟨⟨t270, t273, t274⟩, A20, H⟩ := H
 replace H : ((spec_l1Below.f s0_0 t273 t274 15).bind fun bt275 => (if bt275.1 = 0 then ((spec_l1Below.f s0_0 bt275.2.1 bt275.2.2 9).bind fun bt278 => (if t270.length < 8796093022208 then (some ((t270 ++ [(⟨bt278.1, 0⟩ : S147)]), bt278.2.1, bt278.2.2)) else (none))) else (if bt275.1 = 1 then ((spec_l1PickInt.f s0_0 bt275.2.1 bt275.2.2 (([1000000000, 1000000001] : List Int))).bind fun bt287 => (if t270.length < 8796093022208 then (some ((t270 ++ [(⟨999, bt287.1⟩ : S147)]), bt287.2.1, bt287.2.2)) else (none))) else (some (t270, bt275.2.1, bt275.2.2))))) = some (r1, r2, r3) := H
 have A2 := q_ A20
 clear A20
 replace H := Option.bind_eq_some_iff.mp H
 obtain ⟨⟨t275, t276, t277⟩, A30, H⟩ := H
 replace H : (if t275 = 0 then ((spec_l1Below.f s0_0 t276 t277 9).bind fun bt278 => (if t270.length < 8796093022208 then (some ((t270 ++ [(⟨bt278.1, 0⟩ : S147)]), bt278.2.1, bt278.2.2)) else (none))) else (if t275 = 1 then ((spec_l1PickInt.f s0_0 t276 t277 (([1000000000, 1000000001] : List Int))).bind fun bt287 => (if t270.length < 8796093022208 then (some ((t270 ++ [(⟨999, bt287.1⟩ : S147)]), bt287.2.1, bt287.2.2)) else (none))) else (some (t270, t276, t277)))) = some (r1, r2, r3) := H
 have A3 := q_ A30
 clear A30
 by_cases c4 : t275 = 0
 ·rw [if_pos c4] at H
  have c4b0 : (t275 == 0) = true := beq_iff_eq.mpr c4
  have c4b1 : (t275 != 0) = false := bne_eq_false_iff_eq.mpr c4
  clear c4
  replace H := Option.bind_eq_some_iff.mp H
  obtain ⟨⟨t278, t279, t280⟩, A50, H⟩ := H
  replace H : (if t270.length < 8796093022208 then (some ((t270 ++ [(⟨t278, 0⟩ : S147)]), t279, t280)) else (none)) = some (r1, r2, r3) := H
  have A5 := q_ A50
  clear A50
  by_cases c6 : t270.length < 8796093022208
  ·rw [if_pos c6] at H
   have LMc6 := q_ c6
   clear c6
   obtain ⟨y281, hy281⟩ : ∃ y_ : List (S147), y_ = (t270 ++ [(⟨t278, 0⟩ : S147)]) := ⟨_, rfl⟩
   replace H : (some (y281, t279, t280)) = some (r1, r2, r3) := by first | (rw [hy281]; with_reducible exact H) | (have H2_ := (Option.bind_some _ _).symm.trans H; rw [hy281]; with_reducible exact H2_) | (have H2_ := (Option.bind_some _ _).symm.trans H; with_reducible exact H2_) | with_reducible exact H | (rw [hy281]; exact H) | exact H
   have Ny281 := q_ hy281
   clear hy281
   simp only [Option.some.injEq, Prod.mk.injEq] at H
   obtain ⟨rfl, rfl, rfl⟩ := H
   go_enter Try.func133, Try.ntmps133
   go_wp2_with (first | ((with_reducible refine gate_callee (f := 174) rfl ?_); refine goesL_ (some 5) rfl rfl Try.func174 (by kernel_rfl) rfl #[.pointer (some ⟨g, 0, none⟩), .int .i64 8] rfl z1_ ?_; (with_reducible refine (spec_l1DrawMap.calls k g s0_0 s0_1 s0_2 8 t270 t273 t274 w0 _ ?side1 ?side2 A2.out).mono ?_); (case side1 => exact z105_); (case side2 => exact z106_); rintro e w7 ⟨v271, rfl, ho0, hi, hb, hk⟩; refine ⟨_, rfl, ?_⟩; have n0_ := q_ (Kd.R_lower ho0 (keep_size (w := w) (g := g) (row := none) z3_)); have n1_ := q_ (KeepBut.trans z3_ hk (.inl rfl)); have n2_ := q_ (hb); have n3_ := q_ (hi); clear HK; clear HB; clear HI0; have HO272 := n0_; have HK := n1_; have HB := n2_; have HI0 := n3_; clear n0_ n1_ n2_ n3_; (try clear hb); (try clear hb2); (try clear hk); (try clear hi); (try clear ho0)) | ((with_reducible refine gate_callee (f := 126) rfl ?_); refine goesL_ (some 7) rfl rfl Try.func126 (by kernel_rfl) rfl #[.pointer (some ⟨g, 0, none⟩), .int .i64 15] rfl z1_ ?_; (with_reducible refine (spec_l1Below.calls g s0_0 t273 t274 15 t275 t276 t277 w0 _ ?side1 ?side2 A3.out).mono ?_); (case side1 => exact z105_); (case side2 => exact z106_); rintro e w8 ⟨rfl, hi, hb, hk⟩; refine ⟨_, rfl, ?_⟩; have n0_ := q_ (Kd.R_mono (Kd.R_keep (IsS189.apart (show IsS189 w0 _ g s0_0 t273 t274 from z4_) z47_ (by decide)) hk (fun _ h => h.2)) (fun _ h => h.1)); have n1_ := q_ (KeepBut.trans z3_ hk (.inl rfl)); have n2_ := q_ (hb); have n3_ := q_ (hi); clear HO272; clear HK; clear HB; clear HI0; have HO272 := n0_; have HK := n1_; have HB := n2_; have HI0 := n3_; clear n0_ n1_ n2_ n3_; (try clear hb); (try clear hb2); (try clear hk); (try clear hi)) | ((with_reducible refine gate_callee (f := 126) rfl ?_); refine goesL_ (some 12) rfl rfl Try.func126 (by kernel_rfl) rfl #[.pointer (some ⟨g, 0, none⟩), .int .i64 9] rfl z1_ ?_; (with_reducible refine (spec_l1Below.calls g s0_0 t276 t277 9 t278 t279 t280 w0 _ ?side1 ?side2 A5.out).mono ?_); (case side1 => exact z105_); (case side2 => exact z106_); rintro e w9 ⟨rfl, hi, hb, hk⟩; refine ⟨_, rfl, ?_⟩; have n0_ := q_ (Kd.R_mono (Kd.R_keep (IsS189.apart (show IsS189 w0 _ g s0_0 t276 t277 from z4_) z47_ (by decide)) hk (fun _ h => h.2)) (fun _ h => h.1)); have n1_ := q_ (KeepBut.trans z3_ hk (.inl rfl)); have n2_ := q_ (hb); have n3_ := q_ (hi); clear HO272; clear HK; clear HB; clear HI0; have HO272 := n0_; have HK := n1_; have HB := n2_; have HI0 := n3_; clear n0_ n1_ n2_ n3_; (try clear hb); (try clear hb2); (try clear hk); (try clear hi)) | ((with_reducible refine gate_builtin (b := .append) (xs := #[.tmp 10, .tmp 14]) rfl ?_); at_builtin; refine Kd.R_append k147 w.heap.size rfl (.tmp 10) (.tmp 14) 42 147 (.agg #[(.int .i64 0), (.int .i64 0)]) 16 rfl Try.underlying42 info147 rfl (by decide) (by omega) v271 t270 (⟨t278, 0⟩ : S147) [.int .i64 t278, .int .i64 0] (fun _ => True) (fun _ => False) rfl rfl ?aP (fun _ hk => hk.elim) ?aF ?aO (Below.refl _ _) ?aS ?aL ?_; (case aP => exact k147_mkM _ _ _ (⟨t278, 0⟩ : S147)); (case aF => exact z133_); (case aO => exact z47_); (case aS => exact (keep_size (w := w) (g := g) (row := none) z3_)); (case aL => have := LMc6.out; omega); intro v282 w10 ho hb hg hat; rw [← Ny281.out] at ho; have n0_ := q_ (IsS189.grown z4_ hg (IsS189.own_ne HI0.out HO272.out (by decide))); have n1_ := q_ (below_weaken z9_ HL.out hb); have n2_ := q_ (KeepBut.trans z3_ (KeepBut.of_grown hg g) (Kd.R_base2 HO272.out)); have n3_ := q_ (ho); clear HI0; clear HB; clear HK; clear HO272; have HI0 := n0_; have HB := n1_; have HK := n2_; have HO283 := n3_; clear n0_ n1_ n2_ n3_; clear ho hb hg hat))
   go_ret
   exact ⟨_, z5_, by (with_reducible repeat (first | apply Kd.R_alloc | apply Kd.R_drewN | apply Kd.R_drew)); exact HO283.out, z4_, z9_, z3_⟩
  ·rw [if_neg c6] at H
   exact absurd H (by simp)
 ·rw [if_neg c4] at H
  have c4b0 : (t275 == 0) = false := beq_eq_false_iff_ne.mpr c4
  have c4b1 : (t275 != 0) = true := bne_iff_ne.mpr c4
  by_cases c11 : t275 = 1
  ·rw [if_pos c11] at H
   have c11b0 : (t275 == 1) = true := beq_iff_eq.mpr c11
   have c11b1 : (t275 != 1) = false := bne_eq_false_iff_eq.mpr c11
   clear c11
   obtain ⟨y284, hy284⟩ : ∃ y_ : List Int, y_ = (([1000000000, 1000000001] : List Int)) := ⟨_, rfl⟩
   replace H : ((spec_l1PickInt.f s0_0 t276 t277 y284).bind fun bt287 => (if t270.length < 8796093022208 then (some ((t270 ++ [(⟨999, bt287.1⟩ : S147)]), bt287.2.1, bt287.2.2)) else (none))) = some (r1, r2, r3) := by first | (rw [hy284]; with_reducible exact H) | (have H2_ := (Option.bind_some _ _).symm.trans H; rw [hy284]; with_reducible exact H2_) | (have H2_ := (Option.bind_some _ _).symm.trans H; with_reducible exact H2_) | with_reducible exact H | (rw [hy284]; exact H) | exact H
   have Ny284 := q_ hy284
   clear hy284
   replace H := Option.bind_eq_some_iff.mp H
   obtain ⟨⟨t287, t288, t289⟩, A120, H⟩ := H
   replace H : (if t270.length < 8796093022208 then (some ((t270 ++ [(⟨999, t287⟩ : S147)]), t288, t289)) else (none)) = some (r1, r2, r3) := H
   have A12 := q_ A120
   clear A120
   by_cases c13 : t270.length < 8796093022208
   ·rw [if_pos c13] at H
    have LMc13 := q_ c13
    clear c13
    obtain ⟨y290, hy290⟩ : ∃ y_ : List (S147), y_ = (t270 ++ [(⟨999, t287⟩ : S147)]) := ⟨_, rfl⟩
    replace H : (some (y290, t288, t289)) = some (r1, r2, r3) := by first | (rw [hy290]; with_reducible exact H) | (have H2_ := (Option.bind_some _ _).symm.trans H; rw [hy290]; with_reducible exact H2_) | (have H2_ := (Option.bind_some _ _).symm.trans H; with_reducible exact H2_) | with_reducible exact H | (rw [hy290]; exact H) | exact H
    have Ny290 := q_ hy290
    clear hy290
    simp only [Option.some.injEq, Prod.mk.injEq] at H
    obtain ⟨rfl, rfl, rfl⟩ := H
    go_enter Try.func133, Try.ntmps133
    go_wp2_with (first | ((with_reducible refine gate_callee (f := 174) rfl ?_); refine goesL_ (some 5) rfl rfl Try.func174 (by kernel_rfl) rfl #[.pointer (some ⟨g, 0, none⟩), .int .i64 8] rfl z1_ ?_; (with_reducible refine (spec_l1DrawMap.calls k g s0_0 s0_1 s0_2 8 t270 t273 t274 w0 _ ?side1 ?side2 A2.out).mono ?_); (case side1 => exact z105_); (case side2 => exact z106_); rintro e w14 ⟨v271, rfl, ho0, hi, hb, hk⟩; refine ⟨_, rfl, ?_⟩; have n0_ := q_ (Kd.R_lower ho0 (keep_size (w := w) (g := g) (row := none) z3_)); have n1_ := q_ (KeepBut.trans z3_ hk (.inl rfl)); have n2_ := q_ (hb); have n3_ := q_ (hi); clear HK; clear HB; clear HI0; have HO272 := n0_; have HK := n1_; have HB := n2_; have HI0 := n3_; clear n0_ n1_ n2_ n3_; (try clear hb); (try clear hb2); (try clear hk); (try clear hi); (try clear ho0)) | ((with_reducible refine gate_callee (f := 126) rfl ?_); refine goesL_ (some 7) rfl rfl Try.func126 (by kernel_rfl) rfl #[.pointer (some ⟨g, 0, none⟩), .int .i64 15] rfl z1_ ?_; (with_reducible refine (spec_l1Below.calls g s0_0 t273 t274 15 t275 t276 t277 w0 _ ?side1 ?side2 A3.out).mono ?_); (case side1 => exact z105_); (case side2 => exact z106_); rintro e w15 ⟨rfl, hi, hb, hk⟩; refine ⟨_, rfl, ?_⟩; have n0_ := q_ (Kd.R_mono (Kd.R_keep (IsS189.apart (show IsS189 w0 _ g s0_0 t273 t274 from z4_) z47_ (by decide)) hk (fun _ h => h.2)) (fun _ h => h.1)); have n1_ := q_ (KeepBut.trans z3_ hk (.inl rfl)); have n2_ := q_ (hb); have n3_ := q_ (hi); clear HO272; clear HK; clear HB; clear HI0; have HO272 := n0_; have HK := n1_; have HB := n2_; have HI0 := n3_; clear n0_ n1_ n2_ n3_; (try clear hb); (try clear hb2); (try clear hk); (try clear hi)) | ((with_reducible refine gate_dst (N := 20) rfl ?_); refine Kd.R_lit (Kd.int .i64) _ 3 ?hg (N := 20) ?hd (xs := ([1000000000, 1000000001] : List Int)) (inner := [.int .i64 1000000000, .int .i64 1000000001]) (ok := fun _ => True) (okp := fun _ => True) ?hr ?hp (fun _ hk => hk) trivial (Below.refl _ _) (Nat.le_refl _) (by simp) ?_; (case hd => rfl); (case hg => rfl); (case hr => exact z110_); (case hp => exact (Reps.one (show Kd.M (Kd.int .i64) _ _ _ 1000000000 [.int .i64 1000000000] from rfl) (Reps.one (show Kd.M (Kd.int .i64) _ _ _ 1000000001 [.int .i64 1000000001] from rfl) (Reps.none _ _)))); intro v285 w16 ho17 hb hg_ hnew_; clear hg_ hnew_; (first | rw [← Ny284.out] at ho17 | (simp only [Int.reduceToNat] at ho17; rw [← Ny284.out] at ho17)); have n0_ := q_ (Kd.R_below z47_ hb); have n1_ := q_ (Kd.R_lower ho17 (keep_size (w := w) (g := g) (row := none) z3_)); have n2_ := q_ (IsS189.below z4_ hb); have n3_ := q_ (KeepBut.trans z3_ (KeepBut.of_below hb g none) (.inl rfl)); have n4_ := q_ (below_step z9_ hb); clear HO272; clear HI0; clear HK; clear HB; have HO272 := n0_; have HO286 := n1_; have HI0 := n2_; have HK := n3_; have HB := n4_; clear n0_ n1_ n2_ n3_ n4_; clear hb ho17; obtain ⟨Ao18, co18, eo18⟩ := Kd.R_slice HO286.out; subst eo18) | ((with_reducible refine gate_callee (f := 167) rfl ?_); refine goesL_ (some 21) rfl rfl Try.func167 (by kernel_rfl) rfl #[.pointer (some ⟨g, 0, none⟩), .slice Ao18 y284.length co18] rfl z1_ ?_; (with_reducible refine (spec_l1PickInt.calls g s0_0 t276 t277 _ _ y284 t287 t288 t289 w0 _ ?side1 ?side2 ?side3 ?side4 ?side5 A12.out).mono ?_); (case side1 => exact z105_); (case side2 => exact z106_); (case side3 => repeat (first | exact (Kd.R_reads' HO286.out).2.2 | (with_reducible refine Kd.C_alloc ?_ _) | (with_reducible refine Kd.C_drewN ?_ _) | (with_reducible refine Kd.C_drew ?_))); (case side4 => exact (Kd.R_reads' HO286.out).2.1); (case side5 => exact far_slice (IsS189.own_ne HI0.out HO286.out (by decide))); rintro e w19 ⟨rfl, hi, hb, hk⟩; refine ⟨_, rfl, ?_⟩; have n0_ := q_ (Kd.R_mono (Kd.R_keep (IsS189.apart (show IsS189 w0 _ g s0_0 t276 t277 from z4_) z47_ (by decide)) hk (fun _ h => h.2)) (fun _ h => h.1)); have n1_ := q_ (Kd.R_mono (Kd.R_keep (IsS189.apart (show IsS189 w0 _ g s0_0 t276 t277 from z4_) z76_ (by decide)) hk (fun _ h => h.2)) (fun _ h => h.1)); have n2_ := q_ (KeepBut.trans z3_ hk (.inl rfl)); have n3_ := q_ (hb); have n4_ := q_ (hi); clear HO272; clear HO286; clear HK; clear HB; clear HI0; have HO272 := n0_; have HO286 := n1_; have HK := n2_; have HB := n3_; have HI0 := n4_; clear n0_ n1_ n2_ n3_ n4_; (try clear hb); (try clear hb2); (try clear hk); (try clear hi)) | ((with_reducible refine gate_builtin (b := .append) (xs := #[.tmp 18, .tmp 23]) rfl ?_); at_builtin; refine Kd.R_append k147 w.heap.size rfl (.tmp 18) (.tmp 23) 42 147 (.agg #[(.int .i64 0), (.int .i64 0)]) 16 rfl Try.underlying42 info147 rfl (by decide) (by omega) v271 t270 (⟨999, t287⟩ : S147) [.int .i64 999, .int .i64 t287] (fun _ => True) (fun _ => False) rfl rfl ?aP (fun _ hk => hk.elim) ?aF ?aO (Below.refl _ _) ?aS ?aL ?_; (case aP => exact k147_mkM _ _ _ (⟨999, t287⟩ : S147)); (case aF => exact z133_); (case aO => exact z47_); (case aS => exact (keep_size (w := w) (g := g) (row := none) z3_)); (case aL => have := LMc13.out; omega); intro v291 w20 ho hb hg hat; rw [← Ny290.out] at ho; have n0_ := q_ (IsS189.grown z4_ hg (IsS189.own_ne HI0.out HO272.out (by decide))); have n1_ := q_ (Kd.R_over' z76_ (Kd.R_typed z47_) (by decide) hg); have n2_ := q_ (below_weaken z9_ HL.out hb); have n3_ := q_ (KeepBut.trans z3_ (KeepBut.of_grown hg g) (Kd.R_base2 HO272.out)); have n4_ := q_ (ho); clear HI0; clear HO286; clear HB; clear HK; clear HO272; have HI0 := n0_; have HO286 := n1_; have HB := n2_; have HK := n3_; have HO292 := n4_; clear n0_ n1_ n2_ n3_ n4_; clear ho hb hg hat))
    go_ret
    exact ⟨_, z5_, by (with_reducible repeat (first | apply Kd.R_alloc | apply Kd.R_drewN | apply Kd.R_drew)); exact HO292.out, z4_, z9_, z3_⟩
   ·rw [if_neg c13] at H
    exact absurd H (by simp)
  ·rw [if_neg c11] at H
   have c11b0 : (t275 == 1) = false := beq_eq_false_iff_ne.mpr c11
   have c11b1 : (t275 != 1) = true := bne_iff_ne.mpr c11
   simp only [Option.some.injEq, Prod.mk.injEq] at H
   obtain ⟨rfl, rfl, rfl⟩ := H
   go_enter Try.func133, Try.ntmps133
   go_wp2_with (first | ((with_reducible refine gate_callee (f := 174) rfl ?_); refine goesL_ (some 5) rfl rfl Try.func174 (by kernel_rfl) rfl #[.pointer (some ⟨g, 0, none⟩), .int .i64 8] rfl z1_ ?_; (with_reducible refine (spec_l1DrawMap.calls k g s0_0 s0_1 s0_2 8 t270 t273 t274 w0 _ ?side1 ?side2 A2.out).mono ?_); (case side1 => exact z105_); (case side2 => exact z106_); rintro e w21 ⟨v271, rfl, ho0, hi, hb, hk⟩; refine ⟨_, rfl, ?_⟩; have n0_ := q_ (Kd.R_lower ho0 (keep_size (w := w) (g := g) (row := none) z3_)); have n1_ := q_ (KeepBut.trans z3_ hk (.inl rfl)); have n2_ := q_ (hb); have n3_ := q_ (hi); clear HK; clear HB; clear HI0; have HO272 := n0_; have HK := n1_; have HB := n2_; have HI0 := n3_; clear n0_ n1_ n2_ n3_; (try clear hb); (try clear hb2); (try clear hk); (try clear hi); (try clear ho0)) | ((with_reducible refine gate_callee (f := 126) rfl ?_); refine goesL_ (some 7) rfl rfl Try.func126 (by kernel_rfl) rfl #[.pointer (some ⟨g, 0, none⟩), .int .i64 15] rfl z1_ ?_; (with_reducible refine (spec_l1Below.calls g s0_0 t273 t274 15 t275 t276 t277 w0 _ ?side1 ?side2 A3.out).mono ?_); (case side1 => exact z105_); (case side2 => exact z106_); rintro e w22 ⟨rfl, hi, hb, hk⟩; refine ⟨_, rfl, ?_⟩; have n0_ := q_ (Kd.R_mono (Kd.R_keep (IsS189.apart (show IsS189 w0 _ g s0_0 t273 t274 from z4_) z47_ (by decide)) hk (fun _ h => h.2)) (fun _ h => h.1)); have n1_ := q_ (KeepBut.trans z3_ hk (.inl rfl)); have n2_ := q_ (hb); have n3_ := q_ (hi); clear HO272; clear HK; clear HB; clear HI0; have HO272 := n0_; have HK := n1_; have HB := n2_; have HI0 := n3_; clear n0_ n1_ n2_ n3_; (try clear hb); (try clear hb2); (try clear hk); (try clear hi)))
   go_ret
   exact ⟨_, z5_, z47_, z4_, z9_, z3_⟩

/-! ### spec_l1DrawMsg: function 175 -/
def spec_l1DrawMsg.j0 : Nat → Bool → List Int → Int → Int → Int → Int → Int → Option (Int × Int × Int × Int × Int)
 | 0, _, _, _, _, _, _, _ => none
 | k + 1, x17, x1000, x1001, x1002, x304000, x304001, x304002 => if x17 = true then ((spec_l1Below.f x1000 x1001 x1002 99).bind fun bt304 => ((spec_l1PickInt.f x1000 bt304.2.1 bt304.2.2 (([1, (-2), 5, 700, 1000000000, (-1000000000), bt304.1] : List Int))).bind fun bt310 => (some (x304000, x304001, bt310.1, bt310.2.1, bt310.2.2)))) else (some (x304000, x304001, x304002, x1001, x1002))
def spec_l1DrawMsg.f (k : Nat) (s0_0 : List Int) (s0_1 : Int) (s0_2 : Int) : Option (Int × Int × Int × Int × Int) := (spec_l1PickInt.f s0_0 s0_1 s0_2 (([1, 1, 1, 2, 3, 3, 4] : List Int))).bind fun bt297 => ((spec_l1DrawKey.f s0_0 bt297.2.1 bt297.2.2).bind fun bt300 => (if bt297.1 = 1 then (spec_l1DrawMsg.j0 k true s0_0 bt300.2.1 bt300.2.2 bt297.1 bt300.1 0) else (spec_l1DrawMsg.j0 k (bt297.1 == 3) s0_0 bt300.2.1 bt300.2.2 bt297.1 bt300.1 0)))
theorem spec_l1DrawMsg.mono_l : ∀ k, (∀ y0 y1 y2 y3 y4 y5 y6, LeO (spec_l1DrawMsg.j0 k y0 y1 y2 y3 y4 y5 y6) (spec_l1DrawMsg.j0 (k + 1) y0 y1 y2 y3 y4 y5 y6))
 | 0 => fun _ _ _ _ _ _ _ r h => by simp [spec_l1DrawMsg.j0] at h
 | k + 1 => by
  have ih0 := spec_l1DrawMsg.mono_l k
  ·intro y0 y1 y2 y3 y4 y5 y6
   unfold spec_l1DrawMsg.j0
   repeat' first
   | (with_reducible exact ih0 _ _ _ _ _ _ _)
   | (with_reducible exact LeO.refl _)
   | (with_reducible exact LeO.none _)
   | (with_reducible refine LeO.ite ?_ ?_)
   | (with_reducible refine LeO.bind ?_ (fun _ => ?_))
   | exact ih0 _ _ _ _ _ _ _
   | exact LeO.none _
   | refine LeO.ite ?_ ?_
   | refine LeO.bind ?_ (fun _ => ?_)
theorem spec_l1DrawMsg.mono : ∀ a0 a1 a2 k, LeO (spec_l1DrawMsg.f k a0 a1 a2) (spec_l1DrawMsg.f (k + 1) a0 a1 a2) := by
 intro a0 a1 a2 k
 have ih0 := spec_l1DrawMsg.mono_l k
 unfold spec_l1DrawMsg.f
 repeat' first
   | (with_reducible exact ih0 _ _ _ _ _ _ _)
   | (with_reducible exact LeO.refl _)
   | (with_reducible exact LeO.none _)
   | (with_reducible refine LeO.ite ?_ ?_)
   | (with_reducible refine LeO.bind ?_ (fun _ => ?_))
   | exact ih0 _ _ _ _ _ _ _
   | exact LeO.none _
   | refine LeO.ite ?_ ?_
   | refine LeO.bind ?_ (fun _ => ?_)
set_option maxHeartbeats 8000000 in
set_option maxRecDepth 100000 in
theorem spec_l1DrawMsg.calls (k : Nat) (g : Nat) (s0_0 : List Int) (s0_1 : Int) (s0_2 : Int) (r1 : Int) (r2 : Int) (r3 : Int) (r4 : Int) (r5 : Int) (w0 w : World) (hI : IsS189 w0 w g s0_0 s0_1 s0_2) (hB : Below w0.heap.size w0 w) (h : spec_l1DrawMsg.f k s0_0 s0_1 s0_2 = some (r1, r2, r3, r4, r5)) :
  Calls Try.prog 175 #[.pointer (some ⟨g, 0, none⟩)] w fun e w' => e = .returned (.agg #[.int .i64 r1, .int .i64 r2, .int .i64 r3]) ∧ IsS189 w0 w' g s0_0 r4 r5 ∧ Below w0.heap.size w0 w' ∧ KeepBut w w' g none := by
 have hu67 := Try.underlying67
 have HI0 := q_ hI
 have HK := q_ (KeepBut.refl w g none)
 have HL := q_ hB.size
 clear hI
 have HW0 := q_ hB.size
 have HB := q_ hB
 clear hB
 have H : ((spec_l1PickInt.f s0_0 s0_1 s0_2 (([1, 1, 1, 2, 3, 3, 4] : List Int))).bind fun bt297 => ((spec_l1DrawKey.f s0_0 bt297.2.1 bt297.2.2).bind fun bt300 => (if bt297.1 = 1 then (spec_l1DrawMsg.j0 k true s0_0 bt300.2.1 bt300.2.2 bt297.1 bt300.1 0) else (spec_l1DrawMsg.j0 k (bt297.1 == 3) s0_0 bt300.2.1 bt300.2.2 bt297.1 bt300.1 0)))) = some (r1, r2, r3, r4, r5) := h
 clear h
 obtain ⟨y294, hy294⟩ : ∃ y_ : List Int, y_ = (([1, 1, 1, 2, 3, 3, 4] : List Int)) := ⟨_, rfl⟩
 replace H : ((spec_l1PickInt.f s0_0 s0_1 s0_2 y294).bind fun bt297 => ((spec_l1DrawKey.f s0_0 bt297.2.1 bt297.2.2).bind fun bt300 => (if bt297.1 = 1 then (spec_l1DrawMsg.j0 k true s0_0 bt300.2.1 bt300.2.2 bt297.1 bt300.1 0) else (spec_l1DrawMsg.j0 k (bt297.1 == 3) s0_0 bt300.2.1 bt300.2.2 bt297.1 bt300.1 0)))) = some (r1, r2, r3, r4, r5) := by first | (rw [hy294]; with_reducible exact H) | (have H2_ := (Option.bind_some _ _).symm.trans H; rw [hy294]; with_reducible exact H2_) | (have H2_ := (Option.bind_some _ _).symm.trans H; with_reducible exact H2_) | with_reducible exact H | (rw [hy294]; exact H) | exact H
 have Ny294 := q_ hy294
 clear hy294
 replace H := Option.bind_eq_some_iff.mp H
 obtain ⟨⟨t297, t298, t299⟩, A20, H⟩ := H
 replace H : ((spec_l1DrawKey.f s0_0 t298 t299).bind fun bt300 => (if t297 = 1 then (spec_l1DrawMsg.j0 k true s0_0 bt300.2.1 bt300.2.2 t297 bt300.1 0) else (spec_l1DrawMsg.j0 k (t297 == 3) s0_0 bt300.2.1 bt300.2.2 t297 bt300.1 0))) = some (r1, r2, r3, r4, r5) := H
 have A2 := q_ A20
 clear A20
 replace H := Option.bind_eq_some_iff.mp H
 obtain ⟨⟨t300, t301, t302⟩, A30, H⟩ := H
 replace H : (if t297 = 1 then (spec_l1DrawMsg.j0 k true s0_0 t301 t302 t297 t300 0) else (spec_l1DrawMsg.j0 k (t297 == 3) s0_0 t301 t302 t297 t300 0)) = some (r1, r2, r3, r4, r5) := H
 have A3 := q_ A30
 clear A30
 have HC4 := q_ H
 clear H
 go_enter Try.func175, Try.ntmps175
 go_upto_region 2 with (first | ((with_reducible refine gate_dst (N := 2) rfl ?_); refine box_event ?hg (N := 2) ?hd (cs := #[.int .i64 0, .int .i64 0, .int .i64 0]) (t := 67) ?hr ?_; (case hd => rfl); (case hg => rfl); (case hr => exact z110_); intro gb293 hg w5 hbox hb; have n0_ := q_ (IsS189.below z4_ hb); have n1_ := q_ (KeepBut.trans z3_ (KeepBut.of_below hb g none) (.inl rfl)); have n2_ := q_ (below_step z9_ hb); have n3_ := q_ (hbox); have n4_ := q_ ((z88_ : w.heap.size ≤ gb293)); have n5_ := q_ ((Nat.le_trans HW0.out (z88_ : w.heap.size ≤ gb293) : w0.heap.size ≤ gb293)); have n6_ := q_ ((z94_ : g ≠ gb293)); have n7_ := q_ ((z95_ : gb293 ≠ g)); clear HI0; clear HK; clear HB; have HI0 := n0_; have HK := n1_; have HB := n2_; have BK293 := n3_; have GW293 := n4_; have GE293 := n5_; have NB0_293 := n6_; have NB293_0 := n7_; clear n0_ n1_ n2_ n3_ n4_ n5_ n6_ n7_; clear hb hbox hg) | ((with_reducible refine gate_dst (N := 5) rfl ?_); refine Kd.R_lit (Kd.int .i64) _ 3 ?hg (N := 5) ?hd (xs := ([1, 1, 1, 2, 3, 3, 4] : List Int)) (inner := [.int .i64 1, .int .i64 1, .int .i64 1, .int .i64 2, .int .i64 3, .int .i64 3, .int .i64 4]) (ok := fun _ => True) (okp := fun _ => True) ?hr ?hp (fun _ hk => hk) trivial (Below.refl _ _) (Nat.le_refl _) (by simp) ?_; (case hd => rfl); (case hg => rfl); (case hr => exact z110_); (case hp => exact (Reps.one (show Kd.M (Kd.int .i64) _ _ _ 1 [.int .i64 1] from rfl) (Reps.one (show Kd.M (Kd.int .i64) _ _ _ 1 [.int .i64 1] from rfl) (Reps.one (show Kd.M (Kd.int .i64) _ _ _ 1 [.int .i64 1] from rfl) (Reps.one (show Kd.M (Kd.int .i64) _ _ _ 2 [.int .i64 2] from rfl) (Reps.one (show Kd.M (Kd.int .i64) _ _ _ 3 [.int .i64 3] from rfl) (Reps.one (show Kd.M (Kd.int .i64) _ _ _ 3 [.int .i64 3] from rfl) (Reps.one (show Kd.M (Kd.int .i64) _ _ _ 4 [.int .i64 4] from rfl) (Reps.none _ _))))))))); intro v295 w6 ho7 hb hg_ hnew_; clear hg_ hnew_; (first | rw [← Ny294.out] at ho7 | (simp only [Int.reduceToNat] at ho7; rw [← Ny294.out] at ho7)); have n0_ := q_ (Kd.R_lower ho7 (keep_size (w := w) (g := g) (row := none) z42_)); have n1_ := q_ (IsS189.below z40_ hb); have n2_ := q_ (blk_below (g := gb293) (o := .cells #[.int .i64 0, .int .i64 0, .int .i64 0] 67 (0, 0)) z46_ hb); have n3_ := q_ (KeepBut.trans z42_ (KeepBut.of_below hb g none) (.inl rfl)); have n4_ := q_ (below_step z66_ hb); clear HI0; clear BK293; clear HK; clear HB; have HO296 := n0_; have HI0 := n1_; have BK293 := n2_; have HK := n3_; have HB := n4_; clear n0_ n1_ n2_ n3_ n4_; clear hb ho7; obtain ⟨Ao8, co8, eo8⟩ := Kd.R_slice HO296.out; subst eo8) | ((with_reducible refine gate_callee (f := 167) rfl ?_); refine goesL_ (some 6) rfl rfl Try.func167 (by kernel_rfl) rfl #[.pointer (some ⟨g, 0, none⟩), .slice Ao8 y294.length co8] rfl z1_ ?_; (with_reducible refine (spec_l1PickInt.calls g s0_0 s0_1 s0_2 _ _ y294 t297 t298 t299 w0 _ ?side1 ?side2 ?side3 ?side4 ?side5 A2.out).mono ?_); (case side1 => exact z129_); (case side2 => exact z130_); (case side3 => repeat (first | exact (Kd.R_reads' HO296.out).2.2 | (with_reducible refine Kd.C_alloc ?_ _) | (with_reducible refine Kd.C_drewN ?_ _) | (with_reducible refine Kd.C_drew ?_))); (case side4 => exact (Kd.R_reads' HO296.out).2.1); (case side5 => exact far_slice (IsS189.own_ne HI0.out HO296.out (by decide))); rintro e w9 ⟨rfl, hi, hb, hk⟩; refine ⟨_, rfl, ?_⟩; have n0_ := q_ (KeepBut.blk hk (g' := gb293) (o := .cells #[.int .i64 0, .int .i64 0, .int .i64 0] 67 (0, 0)) z46_ NB293_0.out (by simp)); have n1_ := q_ (Kd.R_mono (Kd.R_keep (IsS189.apart (show IsS189 w0 _ g s0_0 s0_1 s0_2 from z40_) z72_ (by decide)) hk (fun _ h => h.2)) (fun _ h => h.1)); have n2_ := q_ (KeepBut.trans z42_ hk (.inl rfl)); have n3_ := q_ (hb); have n4_ := q_ (hi); clear BK293; clear HO296; clear HK; clear HB; clear HI0; have BK293 := n0_; have HO296 := n1_; have HK := n2_; have HB := n3_; have HI0 := n4_; clear n0_ n1_ n2_ n3_ n4_; (try clear hb); (try clear hb2); (try clear hk); (try clear hi)) | ((with_reducible refine gate_callee (f := 141) rfl ?_); refine goesL_ (some 8) rfl rfl Try.func141 (by kernel_rfl) rfl #[.pointer (some ⟨g, 0, none⟩)] rfl z1_ ?_; (with_reducible refine (spec_l1DrawKey.calls g s0_0 t298 t299 t300 t301 t302 w0 _ ?side1 ?side2 A3.out).mono ?_); (case side1 => exact z129_); (case side2 => exact z130_); rintro e w10 ⟨rfl, hi, hb, hk⟩; refine ⟨_, rfl, ?_⟩; have n0_ := q_ (KeepBut.blk hk (g' := gb293) (o := .cells #[.int .i64 0, .int .i64 0, .int .i64 0] 67 (0, 0)) z46_ NB293_0.out (by simp)); have n1_ := q_ (Kd.R_mono (Kd.R_keep (IsS189.apart (show IsS189 w0 _ g s0_0 t298 t299 from z40_) z72_ (by decide)) hk (fun _ h => h.2)) (fun _ h => h.1)); have n2_ := q_ (KeepBut.trans z42_ hk (.inl rfl)); have n3_ := q_ (hb); have n4_ := q_ (hi); clear BK293; clear HO296; clear HK; clear HB; clear HI0; have BK293 := n0_; have HO296 := n1_; have HK := n2_; have HB := n3_; have HI0 := n4_; clear n0_ n1_ n2_ n3_ n4_; (try clear hb); (try clear hb2); (try clear hk); (try clear hi)) | ((with_reducible refine gate_dst (N := 3) rfl ?_); refine box_event ?hg (N := 3) ?hd (cs := #[.int .i64 0, .int .i64 0, .int .i64 0]) (t := 67) ?hr ?_; (case hd => rfl); (case hg => rfl); (case hr => exact z110_); intro gb303 hg w11 hbox hb; have n0_ := q_ (Kd.R_below z72_ hb); have n1_ := q_ (IsS189.below z40_ hb); have n2_ := q_ (blk_below (g := gb293) (o := .cells #[.int .i64 0, .int .i64 0, .int .i64 0] 67 (0, 0)) z46_ hb); have n3_ := q_ (KeepBut.trans z42_ (KeepBut.of_below hb g none) (.inl rfl)); have n4_ := q_ (below_step z66_ hb); have n5_ := q_ (hbox); have n6_ := q_ ((z104_ : w.heap.size ≤ gb303)); have n7_ := q_ ((Nat.le_trans HW0.out (z104_ : w.heap.size ≤ gb303) : w0.heap.size ≤ gb303)); have n8_ := q_ ((by rw [hg]; exact Nat.ne_of_lt (blk_lt (g := gb293) (o := .cells #[.int .i64 0, .int .i64 0, .int .i64 0] 67 (0, 0)) z46_) : gb293 ≠ gb303)); have n9_ := q_ ((by rw [hg]; exact Nat.ne_of_gt (blk_lt (g := gb293) (o := .cells #[.int .i64 0, .int .i64 0, .int .i64 0] 67 (0, 0)) z46_) : gb303 ≠ gb293)); have n10_ := q_ ((by rw [hg]; exact Nat.ne_of_lt (IsS189.lt (show IsS189 w0 _ g s0_0 t301 t302 from z40_)) : g ≠ gb303)); have n11_ := q_ ((by rw [hg]; exact Nat.ne_of_gt (IsS189.lt (show IsS189 w0 _ g s0_0 t301 t302 from z40_)) : gb303 ≠ g)); clear HO296; clear HI0; clear BK293; clear HK; clear HB; have HO296 := n0_; have HI0 := n1_; have BK293 := n2_; have HK := n3_; have HB := n4_; have BK303 := n5_; have GW303 := n6_; have GE303 := n7_; have NB293_303 := n8_; have NB303_293 := n9_; have NB0_303 := n10_; have NB303_0 := n11_; clear n0_ n1_ n2_ n3_ n4_ n5_ n6_ n7_ n8_ n9_ n10_ n11_; clear hb hbox hg; have hnb12 := NB303_293.out; have hnc12 := NB293_303.out; have hnb13 := NB303_0.out; have hnc13 := NB0_303.out; obtain ⟨hcz14_0, hcz14_1, hcz14_2, hfz14_0, hfz14_1, hfz14_2⟩ := cs3_ BK303.out))
 (try simp only [Act.put, List.setIfInBounds_toArray, List.set_cons_zero, List.set_cons_succ])
 go_cut [17] (fun v17 wc => ∃ (kq : Nat) (x17_3 : Bool), v17 = .bool x17_3 ∧ Aside0 (spec_l1DrawMsg.j0 kq x17_3 s0_0 t301 t302 t297 t300 0 = some (r1, r2, r3, r4, r5)) ∧ Aside0 (kq ≤ k) ∧ Aside0 (wc.heap[gb293]? = some (.cells #[.int .i64 0, .int .i64 0, .int .i64 0] 67 (0, 0))) ∧ Aside0 (wc.heap[gb303]? = some (.cells #[.int .i64 t297, .int .i64 t300, .int .i64 0] 67 (0, 0))) ∧ Aside0 (IsS189 w0 wc g s0_0 t301 t302) ∧ Aside0 (KeepBut w wc g none) ∧ Aside0 (Below w0.heap.size w0 wc))
 case first =>
  have H := HC4.out
  clear HC4
  by_cases c15 : t297 = 1
  ·rw [if_pos c15] at H
   have c15b0 : (t297 == 1) = true := beq_iff_eq.mpr c15
   have c15b1 : (t297 != 1) = false := bne_eq_false_iff_eq.mpr c15
   clear c15
   (first | rw [c15b0] | (simp only [i64_w, i32_w]; rw [c15b0]) | skip)
   have H' := q_ H
   clear H
   have hnb16 := NB303_293.out
   have hnc16 := NB293_303.out
   have hnb17 := NB303_0.out
   have hnc17 := NB0_303.out
   obtain ⟨hcz18_0, hcz18_1, hcz18_2, hfz18_0, hfz18_1, hfz18_2⟩ := cs3_ BK303.out
   go_wp2
   go_meet
   case rel => exact ⟨_, (true), z11_, H', ⟨z65_⟩, ⟨z48_⟩, ⟨z36_⟩, ⟨z29_⟩, ⟨z25_⟩, ⟨z44_⟩⟩
  ·rw [if_neg c15] at H
   have c15b0 : (t297 == 1) = false := beq_eq_false_iff_ne.mpr c15
   have c15b1 : (t297 != 1) = true := bne_iff_ne.mpr c15
   (first | rw [c15b0] | (simp only [i64_w, i32_w]; rw [c15b0]) | skip)
   have H' := q_ H
   clear H
   have hnb19 := NB303_293.out
   have hnc19 := NB293_303.out
   have hnb20 := NB303_0.out
   have hnc20 := NB0_303.out
   obtain ⟨hcz21_0, hcz21_1, hcz21_2, hfz21_0, hfz21_1, hfz21_2⟩ := cs3_ BK303.out
   go_wp2
   go_meet
   case rel => exact ⟨_, ((t297 == 3)), z11_, H', ⟨z65_⟩, ⟨z48_⟩, ⟨z36_⟩, ⟨z29_⟩, ⟨z25_⟩, ⟨z44_⟩⟩
 case rest =>
  clear HC4
  try clear c1
  try clear c2
  try clear p2
  try clear c12
  try clear c13
  try clear c14
  try clear c15
  try clear c15b0
  try clear c15b1
  try clear c16
  try clear c17
  try clear c19
  try clear c20
  try clear hcz14_0
  try clear hcz14_1
  try clear hcz14_2
  try clear hcz18_0
  try clear hcz18_1
  try clear hcz18_2
  try clear hcz21_0
  try clear hcz21_1
  try clear hcz21_2
  try clear hfz14_0
  try clear hfz14_1
  try clear hfz14_2
  try clear hfz18_0
  try clear hfz18_1
  try clear hfz18_2
  try clear hfz21_0
  try clear hfz21_1
  try clear hfz21_2
  obtain ⟨kq, x17_3, rfl, HA, HJ3, BK293, BK303, HI0, HK, HB⟩ := hcut
  cases kq with
  | zero => exact absurd HA.out (by simp [spec_l1DrawMsg.j0])
  | succ kj3 =>
   have H := HA.out
   clear HA
   simp only [spec_l1DrawMsg.j0] at H
   by_cases c22 : x17_3 = true
   ·subst c22
    have H1 : ((spec_l1Below.f s0_0 t301 t302 99).bind fun bt304 => ((spec_l1PickInt.f s0_0 bt304.2.1 bt304.2.2 (([1, (-2), 5, 700, 1000000000, (-1000000000), bt304.1] : List Int))).bind fun bt310 => (some (t297, t300, bt310.1, bt310.2.1, bt310.2.2)))) = some (r1, r2, r3, r4, r5) := z49_
    clear H
    have H := H1
    clear H1
    replace H := Option.bind_eq_some_iff.mp H
    obtain ⟨⟨t304, t305, t306⟩, A230, H⟩ := H
    replace H : ((spec_l1PickInt.f s0_0 t305 t306 (([1, (-2), 5, 700, 1000000000, (-1000000000), t304] : List Int))).bind fun bt310 => (some (t297, t300, bt310.1, bt310.2.1, bt310.2.2))) = some (r1, r2, r3, r4, r5) := H
    have A23 := q_ A230
    clear A230
    obtain ⟨y307, hy307⟩ : ∃ y_ : List Int, y_ = (([1, (-2), 5, 700, 1000000000, (-1000000000), t304] : List Int)) := ⟨_, rfl⟩
    replace H : ((spec_l1PickInt.f s0_0 t305 t306 y307).bind fun bt310 => (some (t297, t300, bt310.1, bt310.2.1, bt310.2.2))) = some (r1, r2, r3, r4, r5) := by first | (rw [hy307]; with_reducible exact H) | (have H2_ := (Option.bind_some _ _).symm.trans H; rw [hy307]; with_reducible exact H2_) | (have H2_ := (Option.bind_some _ _).symm.trans H; with_reducible exact H2_) | with_reducible exact H | (rw [hy307]; exact H) | exact H
    have Ny307 := q_ hy307
    clear hy307
    replace H := Option.bind_eq_some_iff.mp H
    obtain ⟨⟨t310, t311, t312⟩, A240, H⟩ := H
    replace H : (some (t297, t300, t310, t311, t312)) = some (r1, r2, r3, r4, r5) := H
    have A24 := q_ A240
    clear A240
    simp only [Option.some.injEq, Prod.mk.injEq] at H
    obtain ⟨rfl, rfl, rfl, rfl, rfl⟩ := H
    go_wp2_with (first | ((with_reducible refine gate_callee (f := 126) rfl ?_); refine goesL_ (some 20) rfl rfl Try.func126 (by kernel_rfl) rfl #[.pointer (some ⟨g, 0, none⟩), .int .i64 99] rfl z1_ ?_; (with_reducible refine (spec_l1Below.calls g s0_0 t301 t302 99 t304 t305 t306 w0 _ ?side1 ?side2 A23.out).mono ?_); (case side1 => exact z126_); (case side2 => exact z128_); rintro e w25 ⟨rfl, hi, hb, hk⟩; refine ⟨_, rfl, ?_⟩; have n0_ := q_ (KeepBut.blk hk (g' := gb293) (o := .cells #[.int .i64 0, .int .i64 0, .int .i64 0] 67 (0, 0)) z46_ NB293_0.out (by simp)); have n1_ := q_ (KeepBut.blk hk (g' := gb303) (o := .cells #[.int .i64 t297, .int .i64 t300, .int .i64 0] 67 (0, 0)) z69_ NB303_0.out (by simp)); have n2_ := q_ (KeepBut.trans z25_ hk (.inl rfl)); have n3_ := q_ (hb); have n4_ := q_ (hi); clear BK293; clear BK303; clear HK; clear HB; clear HI0; have BK293 := n0_; have BK303 := n1_; have HK := n2_; have HB := n3_; have HI0 := n4_; clear n0_ n1_ n2_ n3_ n4_; (try clear hb); (try clear hb2); (try clear hk); (try clear hi)) | ((with_reducible refine gate_dst (N := 21) rfl ?_); refine Kd.R_lit (Kd.int .i64) _ 3 ?hg (N := 21) ?hd (xs := ([1, (-2), 5, 700, 1000000000, (-1000000000), t304] : List Int)) (inner := [.int .i64 1, .int .i64 (-2), .int .i64 5, .int .i64 700, .int .i64 1000000000, .int .i64 (-1000000000), .int .i64 t304]) (ok := fun _ => True) (okp := fun _ => True) ?hr ?hp (fun _ hk => hk) trivial (Below.refl _ _) (Nat.le_refl _) (by simp) ?_; (case hd => rfl); (case hg => rfl); (case hr => exact z110_); (case hp => exact (Reps.one (show Kd.M (Kd.int .i64) _ _ _ 1 [.int .i64 1] from rfl) (Reps.one (show Kd.M (Kd.int .i64) _ _ _ (-2) [.int .i64 (-2)] from rfl) (Reps.one (show Kd.M (Kd.int .i64) _ _ _ 5 [.int .i64 5] from rfl) (Reps.one (show Kd.M (Kd.int .i64) _ _ _ 700 [.int .i64 700] from rfl) (Reps.one (show Kd.M (Kd.int .i64) _ _ _ 1000000000 [.int .i64 1000000000] from rfl) (Reps.one (show Kd.M (Kd.int .i64) _ _ _ (-1000000000) [.int .i64 (-1000000000)] from rfl) (Reps.one (show Kd.M (Kd.int .i64) _ _ _ t304 [.int .i64 t304] from rfl) (Reps.none _ _))))))))); intro v308 w26 ho27 hb hg_ hnew_; clear hg_ hnew_; (first | rw [← Ny307.out] at ho27 | (simp only [Int.reduceToNat] at ho27; rw [← Ny307.out] at ho27)); have n0_ := q_ (Kd.R_lower ho27 (keep_size (w := w) (g := g) (row := none) z25_)); have n1_ := q_ (blk_below (g := gb293) (o := .cells #[.int .i64 0, .int .i64 0, .int .i64 0] 67 (0, 0)) z46_ hb); have n2_ := q_ (blk_below (g := gb303) (o := .cells #[.int .i64 t297, .int .i64 t300, .int .i64 0] 67 (0, 0)) z69_ hb); have n3_ := q_ (IsS189.below z29_ hb); have n4_ := q_ (KeepBut.trans z25_ (KeepBut.of_below hb g none) (.inl rfl)); have n5_ := q_ (below_step z44_ hb); clear BK293; clear BK303; clear HI0; clear HK; clear HB; have HO309 := n0_; have BK293 := n1_; have BK303 := n2_; have HI0 := n3_; have HK := n4_; have HB := n5_; clear n0_ n1_ n2_ n3_ n4_ n5_; clear hb ho27; obtain ⟨Ao28, co28, eo28⟩ := Kd.R_slice HO309.out; subst eo28) | ((with_reducible refine gate_callee (f := 167) rfl ?_); refine goesL_ (some 22) rfl rfl Try.func167 (by kernel_rfl) rfl #[.pointer (some ⟨g, 0, none⟩), .slice Ao28 y307.length co28] rfl z1_ ?_; (with_reducible refine (spec_l1PickInt.calls g s0_0 t305 t306 _ _ y307 t310 t311 t312 w0 _ ?side1 ?side2 ?side3 ?side4 ?side5 A24.out).mono ?_); (case side1 => exact z126_); (case side2 => exact z128_); (case side3 => repeat (first | exact (Kd.R_reads' HO309.out).2.2 | (with_reducible refine Kd.C_alloc ?_ _) | (with_reducible refine Kd.C_drewN ?_ _) | (with_reducible refine Kd.C_drew ?_))); (case side4 => exact (Kd.R_reads' HO309.out).2.1); (case side5 => exact far_slice (IsS189.own_ne HI0.out HO309.out (by decide))); rintro e w29 ⟨rfl, hi, hb, hk⟩; refine ⟨_, rfl, ?_⟩; have n0_ := q_ (KeepBut.blk hk (g' := gb293) (o := .cells #[.int .i64 0, .int .i64 0, .int .i64 0] 67 (0, 0)) z46_ NB293_0.out (by simp)); have n1_ := q_ (KeepBut.blk hk (g' := gb303) (o := .cells #[.int .i64 t297, .int .i64 t300, .int .i64 0] 67 (0, 0)) z69_ NB303_0.out (by simp)); have n2_ := q_ (Kd.R_mono (Kd.R_keep (IsS189.apart (show IsS189 w0 _ g s0_0 t305 t306 from z29_) (by (with_reducible repeat (first | apply Kd.R_alloc | apply Kd.R_drewN | apply Kd.R_drew)); exact HO309.out) (by decide)) hk (fun _ h => h.2)) (fun _ h => h.1)); have n3_ := q_ (KeepBut.trans z25_ hk (.inl rfl)); have n4_ := q_ (hb); have n5_ := q_ (hi); clear BK293; clear BK303; clear HO309; clear HK; clear HB; clear HI0; have BK293 := n0_; have BK303 := n1_; have HO309 := n2_; have HK := n3_; have HB := n4_; have HI0 := n5_; clear n0_ n1_ n2_ n3_ n4_ n5_; (try clear hb); (try clear hb2); (try clear hk); (try clear hi); have hnb30 := NB303_293.out; have hnc30 := NB293_303.out; have hnb31 := NB303_0.out; have hnc31 := NB0_303.out; obtain ⟨hcz32_0, hcz32_1, hcz32_2, hfz32_0, hfz32_1, hfz32_2⟩ := cs3_ BK303.out; have hnb33 := NB293_0.out; have hnc33 := NB0_293.out; obtain ⟨hcz34_0, hcz34_1, hcz34_2, hfz34_0, hfz34_1, hfz34_2⟩ := cs3_ BK293.out))
    refine bodyPost_ret (results_cell_row rfl _ _ gb293 67 #[.int .i64 t297, .int .i64 t300, .int .i64 t310] (0, 0) _ rfl (by (with_reducible repeat (first | refine blk_drewN ?_ _ | refine blk_drew ?_ | refine blk_alloc ?_ _)); refine blk_put (cs := #[.int .i64 t297, .int .i64 t300, .int .i64 0]) ?_ 2 _ rfl; (with_reducible repeat (first | refine blk_drewN ?_ _ | refine blk_drew ?_ | refine blk_alloc ?_ _)); refine blk_put (cs := #[.int .i64 t297, .int .i64 0, .int .i64 0]) ?_ 1 _ rfl; (with_reducible repeat (first | refine blk_drewN ?_ _ | refine blk_drew ?_ | refine blk_alloc ?_ _)); refine blk_put (cs := #[.int .i64 0, .int .i64 0, .int .i64 0]) ?_ 0 _ rfl; (with_reducible repeat (first | refine blk_drewN ?_ _ | refine blk_drew ?_ | refine blk_alloc ?_ _)); refine blk_far ?_ NB293_303.out _; (with_reducible repeat (first | refine blk_drewN ?_ _ | refine blk_drew ?_ | refine blk_alloc ?_ _)); exact BK293.out) Try.underlying67 rfl (by kernel_rfl)) rfl ?_
    exact ⟨z5_, z29_, z44_, z25_⟩
   ·replace c22 := Bool.eq_false_iff.mpr c22
    subst c22
    have H1 : (some (t297, t300, 0, t301, t302)) = some (r1, r2, r3, r4, r5) := by rw [if_neg (show ¬ (false = true) by decide)] at H; exact H
    clear H
    have H := H1
    clear H1
    simp only [Option.some.injEq, Prod.mk.injEq] at H
    obtain ⟨rfl, rfl, rfl, rfl, rfl⟩ := H
    have hnb35 := NB303_293.out
    have hnc35 := NB293_303.out
    have hnb36 := NB303_0.out
    have hnc36 := NB0_303.out
    obtain ⟨hcz37_0, hcz37_1, hcz37_2, hfz37_0, hfz37_1, hfz37_2⟩ := cs3_ BK303.out
    have hnb38 := NB293_0.out
    have hnc38 := NB0_293.out
    obtain ⟨hcz39_0, hcz39_1, hcz39_2, hfz39_0, hfz39_1, hfz39_2⟩ := cs3_ BK293.out
    go_wp2
    refine bodyPost_ret (results_cell_row rfl _ _ gb293 67 #[.int .i64 t297, .int .i64 t300, .int .i64 0] (0, 0) _ rfl (by (with_reducible repeat (first | refine blk_drewN ?_ _ | refine blk_drew ?_ | refine blk_alloc ?_ _)); refine blk_put (cs := #[.int .i64 t297, .int .i64 t300, .int .i64 0]) ?_ 2 _ rfl; (with_reducible repeat (first | refine blk_drewN ?_ _ | refine blk_drew ?_ | refine blk_alloc ?_ _)); refine blk_put (cs := #[.int .i64 t297, .int .i64 0, .int .i64 0]) ?_ 1 _ rfl; (with_reducible repeat (first | refine blk_drewN ?_ _ | refine blk_drew ?_ | refine blk_alloc ?_ _)); refine blk_put (cs := #[.int .i64 0, .int .i64 0, .int .i64 0]) ?_ 0 _ rfl; (with_reducible repeat (first | refine blk_drewN ?_ _ | refine blk_drew ?_ | refine blk_alloc ?_ _)); exact BK293.out) Try.underlying67 rfl (by kernel_rfl)) rfl ?_
    exact ⟨z5_, z29_, z44_, z25_⟩

end Go.Proofs.Ytphlmbhjeoljoaa.PFnMapped
