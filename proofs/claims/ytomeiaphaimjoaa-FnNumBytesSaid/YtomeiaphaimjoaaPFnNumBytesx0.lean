-- Written by a program of this session, which goes by the kit's print. Not trusted: Lean checks it.
import Derived.Test.YtomeiaphaimjoaaProg
import Derived.Below
import Derived.Deep.Draws
import Derived.Deep.AppendLies
import Derived.Maps.AppendAt
import Derived.OwnWalk
import Derived.Laws.BytesArg
import Derived.Laws.MakeOwn
import Derived.Laws.OwnMore
import Derived.Deep.OwnRows
import Derived.Tactics
import Derived.Lib.ConvBytes
import Derived.Laws.Slices
import Derived.WalkKit
import Derived.KernelRfl
import Derived.RowKit3
import Derived.Deep.LoopGhost
import Derived.Deep.QuietTactic
import Derived.BigQuiet
import Derived.WideLaws
import Derived.Deep.DeepCutAuto
import Derived.Deep.CutBlock
import Derived.Deep.RegionHeld3
import Derived.Laws.Rows
import Derived.Lib.AppendStr
import Derived.ArgAppend
import Derived.Laws.IdiomCopy
import Derived.OrdersHeld
import Derived.Laws.BitsLemmas
import Derived.RowKit
import Derived.WalkSpells
import Derived.Deep.RegionLaw
import Derived.Laws.Externs
import Derived.Test.YtomeiaphaimjoaaPFnNumByteswWords
import Derived.Test.YtomeiaphaimjoaaPFnNumByteswLast
import Derived.Test.YtomeiaphaimjoaaPFnNumByteswTab
import Derived.Test.YtomeiaphaimjoaaPFnNumByteswQPut
import Derived.Test.YtomeiaphaimjoaaPFnNumByteswApart
import Derived.Test.YtomeiaphaimjoaaPFnNumByteswArr
import Derived.Test.YtomeiaphaimjoaaPFnNumByteswZeros
import Derived.Test.YtomeiaphaimjoaaPFnNumByteswFoot
import Derived.Test.YtomeiaphaimjoaaPFnNumByteswKept
import Derived.Test.YtomeiaphaimjoaaPFnNumByteswShare
import Derived.Test.YtomeiaphaimjoaaPFnNumByteswN
import Derived.Test.YtomeiaphaimjoaaPFnNumByteswRepsOne
import Derived.Test.YtomeiaphaimjoaaPFnNumByteswGuard
import Derived.Test.YtomeiaphaimjoaaPFnNumByteswNEv
import Derived.Test.YtomeiaphaimjoaaPFnNumByteswMore
import Derived.Test.YtomeiaphaimjoaaPFnNumByteswIns
namespace Go.Proofs.Ytomeiaphaimjoaa.PFnNumBytes
open Go.RowKit Go.Proofs.YtomeiaphaimjoaaW.PrintWords Go.Proofs.YtomeiaphaimjoaaW.PrintLast Go.Proofs.YtomeiaphaimjoaaW.PrintMore
attribute [local go_sem] max2_int min2_int max_two min_two max_three min_three max_four min_four   -- for this text's walks alone
set_option linter.unusedVariables false
set_option linter.unusedSimpArgs false
-- steps that are taken in many places
theorem q_ {p : Prop} (h : p) : Aside0 p := Aside0.mk h
theorem up_ {w W : World} {p : Addr} {v : Value} (HB : Aside0 (Below w.heap.size w W)) (hx : w.cell? p = some v) : W.cell? p = some v := (HB.out.cell (World.block_lt_of_cell? w _ hx)).trans hx
theorem z0_ {p : Prop} (h : p := by repeat (first | (with_reducible first | exact HI180.out | apply IsS102.alloc | apply IsS102.drewN | apply IsS102.drew | apply IsS102.set_1 | apply IsS102.set_2) | exact HI180.out)) : p := h
theorem z1_ {p : Prop} (h : p := by (try simp only [List.map_toArray, List.map_cons, List.map_nil]); first | done | rfl | (simp only [List.length_drop, List.length_take]; rfl)) : p := h
theorem z2_ {p : Prop} (h : p := by first | (rw [hy_]; with_reducible exact H) | (have H2_ := (Option.bind_some _ _).symm.trans H; rw [hy_]; with_reducible exact H2_) | (have H2_ := (Option.bind_some _ _).symm.trans H; with_reducible exact H2_) | with_reducible exact H | (rw [hy_]; exact H) | exact H) : p := h
theorem z3_ {p : Prop} (h : p := by repeat (first | (with_reducible first | exact HB.out | apply below_alloc | apply pw_below_drewN | apply below_drew1 | refine below_set ?_ (IsS102.ge HI180.out)) | exact HB.out)) : p := h
theorem z4_ {p : Prop} (h : p := by first | rfl | (simp [errW_none, errW_some] <;> rfl) | (simp [*, errW_none, errW_some] <;> rfl)) : p := h
theorem z5_ {p : Prop} (h : p := by first | (with_reducible assumption) | assumption) : p := h
theorem z6_ {p : Prop} (h : p := by first | rfl | (simp [errW_none, errW_some] <;> rfl) | (simp only [← hji9, ← hji12, ← hji14]; first | rfl | (simp [errW_none, errW_some] <;> rfl)) | (simp [*, errW_none, errW_some] <;> rfl)) : p := h
theorem z7_ {p : Prop} (h : p := by (with_reducible repeat (first | apply Kd.R_alloc | apply Kd.R_drewN | apply Kd.R_drew)); exact HO189.out) : p := h
theorem z8_ {p : Prop} (h : p := by (with_reducible repeat (first | apply Kd.R_alloc | apply Kd.R_drewN | apply Kd.R_drew)); exact HO195.out) : p := h
theorem z9_ {p : Prop} (h : p := by repeat (first | (with_reducible first | exact HK.out | apply KeepBut.set_ | apply keep_drewN | apply keep_drew | apply keep_alloc) | exact HK.out)) : p := h
theorem z10_ {p : Prop} (h : p := by first | rfl | (simp; done) | (simp [*]; done)) : p := h
theorem z11_ {p : Prop} (h : p := by (with_reducible repeat (first | apply Kd.R_alloc | apply Kd.R_drewN | apply Kd.R_drew)); exact HO198.out) : p := h
theorem z12_ {p : Prop} (h : p := by repeat (first | exact Drawn0.refl _ | apply Drawn0.step)) : p := h
theorem z13_ {p : Prop} (h : p := by first | rfl | (simp; done) | (simp only [← hji9, ← hji12, ← hji14] <;> (first | rfl | simp)) | (simp [*]; done)) : p := h
theorem z14_ {p : Prop} (h : p := by repeat (first | (with_reducible first | exact HI0.out | apply IsS102.alloc | apply IsS102.drewN | apply IsS102.drew | apply IsS102.set_1 | apply IsS102.set_2) | exact HI0.out)) : p := h
theorem z15_ {p : Prop} (h : p := by repeat (first | (with_reducible first | exact HB.out | apply below_alloc | apply pw_below_drewN | apply below_drew1 | refine below_set ?_ (IsS102.ge HI0.out)) | exact HB.out)) : p := h
theorem z16_ {p : Prop} (h : p := by (with_reducible repeat (first | apply Kd.R_alloc | apply Kd.R_drewN | apply Kd.R_drew)); exact HO242.out) : p := h
theorem z17_ {p : Prop} (h : p := by repeat (first | (with_reducible first | exact HBW.out | apply below_alloc | apply pw_below_drewN | apply below_drew1) | exact HBW.out)) : p := h
theorem z18_ {p : Prop} (h : p := by (with_reducible repeat (first | apply Kd.R_alloc | apply Kd.R_drewN | apply Kd.R_drew)); exact HO245.out) : p := h
theorem z19_ {p : Prop} (h : p := by repeat (first | (with_reducible first | exact HB.out | apply below_alloc | apply pw_below_drewN | apply below_drew1 | refine below_set ?_ (IsS102.ge HI166.out)) | exact HB.out)) : p := h
theorem z20_ {p : Prop} (h : p := by (with_reducible repeat (first | apply Kd.R_alloc | apply Kd.R_drewN | apply Kd.R_drew)); exact HO186.out) : p := h
theorem z21_ {p : Prop} (h : p := by (with_reducible repeat (first | apply Kd.R_alloc | apply Kd.R_drewN | apply Kd.R_drew)); exact HO219.out) : p := h
theorem z22_ {p : Prop} (h : p := by (with_reducible repeat (first | apply Kd.R_alloc | apply Kd.R_drewN | apply Kd.R_drew)); exact HO262.out) : p := h
theorem z23_ {p : Prop} (h : p := by repeat (first | (with_reducible exact HR275.out) | (with_reducible refine Kd.C_alloc ?_ _) | (with_reducible refine Kd.C_drewN ?_ _) | (with_reducible refine Kd.C_drew ?_) | exact HR275.out)) : p := h
theorem z24_ {p : Prop} (h : p := by first | omega | exact Nat.le_refl _) : p := h
theorem z25_ {p : Prop} (h : p := by repeat (first | (with_reducible first | exact HI166.out | apply IsS102.alloc | apply IsS102.drewN | apply IsS102.drew | apply IsS102.set_1 | apply IsS102.set_2) | exact HI166.out)) : p := h
theorem z26_ {p : Prop} (h : p := by (with_reducible repeat (first | apply Kd.R_alloc | apply Kd.R_drewN | apply Kd.R_drew)); exact HO103.out) : p := h
theorem z27_ {p : Prop} (h : p := by (with_reducible repeat (first | apply Kd.R_alloc | apply Kd.R_drewN | apply Kd.R_drew)); exact HO207.out) : p := h
theorem z28_ {p : Prop} (h : p := by (with_reducible repeat (first | apply Kd.R_alloc | apply Kd.R_drewN | apply Kd.R_drew)); exact HO_3.out) : p := h
theorem z29_ {p : Prop} (h : p := by (with_reducible repeat (first | apply Kd.R_alloc | apply Kd.R_drewN | apply Kd.R_drew)); exact HO210.out) : p := h
theorem z30_ {p : Prop} (h : p := by (with_reducible repeat (first | apply Kd.R_alloc | apply Kd.R_drewN | apply Kd.R_drew)); exact HO225.out) : p := h
theorem z31_ {p : Prop} (h : p := by (with_reducible repeat (first | apply Kd.R_alloc | apply Kd.R_drewN | apply Kd.R_drew)); exact HO_4.out) : p := h
theorem z32_ {p : Prop} (h : p := by first | rfl | (simp; done) | (simp only [← hji14] <;> (first | rfl | simp)) | (simp [*]; done)) : p := h
theorem z33_ {p : Prop} (h : p := by first | (rw [hji12] at H; exact H) | (simp only [hji12] at H ⊢; exact H)) : p := h
theorem z34_ {p : Prop} (h : p := by first | (rw [hji14] at H; exact H) | (simp only [hji14] at H ⊢; exact H)) : p := h
theorem z35_ {p : Prop} (h : p := by first | (rw [hji9] at H; exact H) | (simp only [hji9] at H ⊢; exact H)) : p := h
theorem z36_ {p : Prop} (h : p := by have := HJ2.out; have := HK2.out; first | omega | exact Nat.le_refl _) : p := h
theorem z37_ {p : Prop} (h : p := by simpa using c35) : p := h
theorem z38_ {p : Prop} (h : p := by rw [hg]; exact (below_size z17_)) : p := h
theorem z39_ {p : Prop} (h : p := by repeat (first | (with_reducible first | exact HI180.out | apply IsS102.alloc | apply IsS102.drewN | apply IsS102.drew | apply IsS102.set_1 | apply IsS102.set_2) | exact HI180.out)) : p := h
theorem z40_ {p : Prop} (h : p := by repeat (first | (with_reducible first | exact HB.out | apply below_alloc | apply pw_below_drewN | apply below_drew1 | refine below_set ?_ (IsS102.ge HI180.out)) | exact HB.out)) : p := h
theorem z41_ {p : Prop} (h : p := by repeat (first | (with_reducible first | exact HI0.out | apply IsS102.alloc | apply IsS102.drewN | apply IsS102.drew | apply IsS102.set_1 | apply IsS102.set_2) | exact HI0.out)) : p := h
theorem z42_ {p : Prop} (h : p := by repeat (first | (with_reducible first | exact HB.out | apply below_alloc | apply pw_below_drewN | apply below_drew1 | refine below_set ?_ (IsS102.ge HI0.out)) | exact HB.out)) : p := h
theorem z43_ {p : Prop} (h : p := by repeat (first | exact (Kd.R_reads' HO262.out).2.2 | (with_reducible refine Kd.C_alloc ?_ _) | (with_reducible refine Kd.C_drewN ?_ _) | (with_reducible refine Kd.C_drew ?_))) : p := h
theorem z44_ {p : Prop} (h : p := by repeat (first | exact (Kd.C_below HR0.out HB.out) | (with_reducible refine Kd.C_alloc ?_ _) | (with_reducible refine Kd.C_drewN ?_ _) | (with_reducible refine Kd.C_drew ?_))) : p := h
theorem z45_ {p : Prop} (h : p := by first | (go_simp; done) | (go_simp; rfl)) : p := h
theorem z46_ {p : Prop} (h : p := by repeat (first | (with_reducible first | exact HI166.out | apply IsS102.alloc | apply IsS102.drewN | apply IsS102.drew | apply IsS102.set_1 | apply IsS102.set_2) | exact HI166.out)) : p := h
theorem z47_ {p : Prop} (h : p := by repeat (first | (with_reducible first | exact HB.out | apply below_alloc | apply pw_below_drewN | apply below_drew1 | refine below_set ?_ (IsS102.ge HI166.out)) | exact HB.out)) : p := h
theorem z48_ {p : Prop} (h : p := by repeat (first | (with_reducible first | exact HB.out | apply below_alloc | apply pw_below_drewN | apply below_drew1) | exact HB.out)) : p := h
theorem z49_ {p : Prop} (h : p := by exact (fun k_ hk => ⟨Kd.fresh' (Kd.R_lt z16_) k_ hk, Kd.fresh' (Kd.R_lt z18_) k_ hk⟩)) : p := h
theorem z50_ {p : Prop} (h : p := by exact (Kd.R_reads' HO262.out).2.1) : p := h
-- a step in many lines, as one lemma
theorem cb_ {p : Prop} (h : p := by repeat (first | (with_reducible first | exact HB.out | apply below_alloc | apply pw_below_drewN | apply below_drew1 | refine below_set ?_ (Aside0.out (by assumption))) | exact HB.out)) : p := h
theorem hb_ {w W w2 : World} (hb : Below W.heap.size W w2) (h : Below w.heap.size w W := by repeat (first | (with_reducible first | exact HB.out | apply below_alloc | apply pw_below_drewN | apply below_drew1 | refine below_set ?_ (Aside0.out (by assumption))) | exact HB.out)) : Aside0 (Below w.heap.size w w2) := ⟨below_step h hb⟩
theorem rb_ {W0 W w2 : World} {g : Nat} {o : Obj} (h0 : Aside0 (W0.heap[g]? = some o)) (hb : Below W.heap.size W w2) (h : W0.heap[g]? = some o → W.heap[g]? = some o := by intro h_; (with_reducible repeat (first | refine blk_drewN ?_ _ | refine blk_drew ?_ | refine blk_alloc ?_ _)); exact h_) : Aside0 (w2.heap[g]? = some o) := ⟨blk_below (id h h0.out) hb⟩
theorem ge_ {w W : World} {g : Nat} (hg : g = W.heap.size) (h : Below w.heap.size w W := by repeat (first | (with_reducible first | exact HB.out | apply below_alloc | apply pw_below_drewN | apply below_drew1 | refine below_set ?_ (Aside0.out (by assumption))) | exact HB.out)) : Aside0 (w.heap.size ≤ g) := ⟨by rw [hg]; exact below_size h⟩
theorem nl_ {W0 W : World} {g g' : Nat} {o : Obj} (hg : g' = W.heap.size) (h0 : Aside0 (W0.heap[g]? = some o)) (h : W0.heap[g]? = some o → W.heap[g]? = some o := by intro h_; (with_reducible repeat (first | refine blk_drewN ?_ _ | refine blk_drew ?_ | refine blk_alloc ?_ _)); exact h_) : Aside0 (g ≠ g') := ⟨by rw [hg]; exact Nat.ne_of_lt (blk_lt (id h h0.out))⟩
theorem nr_ {W0 W : World} {g g' : Nat} {o : Obj} (hg : g' = W.heap.size) (h0 : Aside0 (W0.heap[g]? = some o)) (h : W0.heap[g]? = some o → W.heap[g]? = some o := by intro h_; (with_reducible repeat (first | refine blk_drewN ?_ _ | refine blk_drew ?_ | refine blk_alloc ?_ _)); exact h_) : Aside0 (g' ≠ g) := ⟨by rw [hg]; exact Nat.ne_of_gt (blk_lt (id h h0.out))⟩
theorem bi_ {α β : Type} {o : Option α} {f : α → Option β} {r : β} (H : o.bind f = some r) : ∃ a, Aside0 (o = some a) ∧ f a = some r := by
 obtain ⟨a, h, h'⟩ := Option.bind_eq_some_iff.mp H
 exact ⟨a, ⟨h⟩, h'⟩
theorem si_ {α : Type} {a b : α} (H : some a = some b) : a = b := Option.some.inj H
theorem s2_ {α β : Type} {a c : α} {b d : β} (H : some (a, b) = some (c, d)) : a = c ∧ b = d := by cases H; exact ⟨rfl, rfl⟩
section
variable {α : Type} {r : α} {c : Prop} [Decidable c]
theorem kd_ {x y : Option α} (H : (if c then x else y) = some r) : (decide c = true ∧ x = some r) ∨ (decide c = false ∧ y = some r) := by
 by_cases h : c
 ·rw [if_pos h] at H; exact .inl ⟨decide_eq_true h, H⟩
 ·rw [if_neg h] at H; exact .inr ⟨decide_eq_false h, H⟩
theorem kdn_ {x : Option α} (H : (if c then x else none) = some r) : decide c = true ∧ x = some r := by
 by_cases h : c
 ·rw [if_pos h] at H; exact ⟨decide_eq_true h, H⟩
 ·rw [if_neg h] at H; cases H
theorem kg_ {a b : Int} {x y : Option α} (H : (if a > b then x else y) = some r) : (decide (b < a) = true ∧ x = some r) ∨ (decide (b < a) = false ∧ y = some r) := kd_ (c := b < a) H
theorem kln_ {x : Option α} (H : (if c then x else none) = some r) : Aside0 c ∧ x = some r := by
 have h := kdn_ H
 exact ⟨⟨of_decide_eq_true h.1⟩, h.2⟩
theorem ktn_ {x : Option α} (H : (if c then x else none) = some r) : c = True ∧ decide c = true ∧ x = some r := by
 have h := kdn_ H
 exact ⟨eq_true (of_decide_eq_true h.1), h⟩
theorem ke_ {ι : Type} [BEq ι] [LawfulBEq ι] {a b : ι} [Decidable (a = b)] {x y : Option α} (H : (if a = b then x else y) = some r) : ((a == b) = true ∧ (a != b) = false ∧ x = some r) ∨ (¬ a = b ∧ (a == b) = false ∧ (a != b) = true ∧ y = some r) := by
 by_cases h : a = b
 ·rw [if_pos h] at H; exact .inl ⟨beq_iff_eq.mpr h, bne_eq_false_iff_eq.mpr h, H⟩
 ·rw [if_neg h] at H; exact .inr ⟨h, beq_eq_false_iff_ne.mpr h, bne_iff_ne.mpr h, H⟩
theorem kb_ {t : Bool} {x y : Option α} (H : (if t = true then x else y) = some r) : (t = true ∧ x = some r) ∨ (t = false ∧ y = some r) := by
 cases t with
 | true => exact .inl ⟨rfl, H⟩
 | false => exact .inr ⟨rfl, H⟩
end
theorem rn_ {α : Type} {r : α} {k : Nat} {o : Option α} (HA : Aside0 (o = some r)) (h0 : k = 0 → o = none) : ∃ m, k = m + 1 ∧ o = some r := by
 cases k with
 | zero => exact absurd ((h0 rfl).symm.trans HA.out) (by simp)
 | succ m => exact ⟨m, rfl, HA.out⟩
theorem zm_ {p : Prop} (h : p := by repeat' first | (with_reducible apply ih0) | (with_reducible apply ih1) | (with_reducible apply ih2) | (with_reducible apply ih3) | (with_reducible apply ih4) | (with_reducible apply ih5) | (with_reducible apply ih6) | (with_reducible apply ih7) | (with_reducible apply m0) | (with_reducible apply m1) | (with_reducible apply m2) | (with_reducible apply m3) | (with_reducible apply m4) | (with_reducible apply m5) | (with_reducible apply m6) | (with_reducible apply m7) | (with_reducible apply m8) | (with_reducible apply m9) | (with_reducible exact LeO.refl _) | (with_reducible exact LeO.none _) | (with_reducible refine LeO.ite ?_ ?_) | (with_reducible refine LeO.bind ?_ (fun _ => ?_)) | exact LeO.none _ | refine LeO.ite ?_ ?_ | refine LeO.bind ?_ (fun _ => ?_)) : p := h



def errW : Option Int → Value
 | none => .nilIface
 | some c => .iface 0 (.int .i64 c)
theorem errW_none : errW none = .nilIface := rfl
theorem errW_some (c : Int) : errW (some c) = .iface 0 (.int .i64 c) := rfl

theorem info3 : (Try.prog.info? 3).map (fun i => (i.zero, i.size, i.bytes)) = some (some (.int .i64 0), 1, 8) := by kernel_rfl
theorem info5 : (Try.prog.info? 5).map (fun i => (i.zero, i.size, i.bytes)) = some (some (.int .u8 0), 1, 1) := by kernel_rfl
-- the values' own types

end Go.Proofs.Ytomeiaphaimjoaa.PFnNumBytes
