-- Laid by a program of this session: of the words of print.sh those that this law needs. Not trusted: Lean checks it.
-- Rows of one's own that the library's own text turns (slices.Delete, slices.Insert). The session's own text. Lean checks it.
import Derived.Test.YtfnndcpaldkkoaaPFnExactPendingwMore
import Derived.Test.YtfnndcpaldkkoaaPFnExactPendingwLast
import Derived.Test.YtfnndcpaldkkoaaPFnExactPendingwTab
import Derived.KernelRfl
import Derived.WalkKit
import Derived.Laws.IdiomCopy
import Derived.Laws.Externs
namespace Go.Proofs.YtfnndcpaldkkoaaW.PrintMore
open Go.RowKit Go.Proofs.YtfnndcpaldkkoaaW.PrintWords Go.Proofs.YtfnndcpaldkkoaaW.PrintLast
/-! Rows of one's own that the library's own text turns: an element taken out, an element put in. -/
namespace Kd
open Go.Proofs.YtfnndcpaldkkoaaW.PrintWords.Kd
section
variable {α : Type} {d : Kd α} {e base n m c g : Nat} {ok ok' : Nat → Prop} {W W1 : World} {xs ys : List α}
end
section
variable {α : Type} {d : Kd α} {e base n m c g i : Nat} {ok okp : Nat → Prop} {W W1 : World} {xs ys : List α}
end
end Kd
section
variable {P : Program}
end
section
variable {P : Program}
end
section
variable {P : Program} {ops : Array Oper} {rest : List Oper} {o : Oper} {a : Act} {Q : Exit → Act → World → Prop} {Kc : Act → World → Prop}
end
section
variable {P : Program} {α : Type}
end
section
variable {P : Program} {md : Region.Mode} {ops : Array Oper} {Q : Exit → Act → World → Prop} {S : World → Prop} {ds : List Nat}
/-- So many that have come up, so many that have not. -/
abbrev tf (a b : Nat) : Array Bool := (List.replicate a true ++ List.replicate b false).toArray
/-- One operation of a region that draws, taken as it stands. -/
theorem p1_ {oi : Oper} {v : Value} {fuel : Nat} {l : Array Bool} {a a' : Act} {w : World} {T : Bool × List (List Nat × List Nat)} (i : Nat) (N : Option Tmp) (l' : Array Bool) (hT : rtab md ops = T) (h : wpAnyLast P md ops Q S ds fuel l' a' w)
    (hi : ops[i]? = some oi := by rfl) (hN : oi.dst = N := by rfl) (hc : anyT T l.toList l'.toList i = true := by kernel_rfl) (hQ : ∀ c a w, Q (.panic c) (a.put oi.dst v) w → Q (.panic c) a w := by exact fun _ _ _ h => h)
    (hg : Region.wanted oi (yielded ops a.tmps) = true := by rfl) (hy : ∀ w, (execOp a.eval oi).run P w = .ok (.value v) w := by (intro w'; go_simp; with_reducible rfl))
    (ha : a.put N v = a' := by (simp only [Act.put, List.setIfInBounds_toArray, List.set_cons_zero, List.set_cons_succ, i64_w, i32_w]; rfl)) : wpAnyLast P md ops Q S ds (fuel + 1) l a w :=
  pure_ l' hi hN (any_of hT hc) hQ (Or.inl ⟨hg, hy⟩) ha h
/-- .. one that isn't wanted. -/
theorem p2_ {oi : Oper} {fuel : Nat} {l : Array Bool} {a a' : Act} {w : World} {T : Bool × List (List Nat × List Nat)} (i : Nat) (N : Option Tmp) (l' : Array Bool) (hT : rtab md ops = T) (h : wpAnyLast P md ops Q S ds fuel l' a' w)
    (hi : ops[i]? = some oi := by rfl) (hN : oi.dst = N := by rfl) (hc : anyT T l.toList l'.toList i = true := by kernel_rfl) (hQ : ∀ c a w, Q (.panic c) (a.put oi.dst undef) w → Q (.panic c) a w := by exact fun _ _ _ h => h)
    (hg : Region.wanted oi (yielded ops a.tmps) = false := by rfl)
    (ha : a.put N undef = a' := by (simp only [Act.put, List.setIfInBounds_toArray, List.set_cons_zero, List.set_cons_succ, i64_w, i32_w]; rfl)) : wpAnyLast P md ops Q S ds (fuel + 1) l a w :=
  pure_ l' hi hN (any_of hT hc) hQ (Or.inr ⟨hg, rfl⟩) ha h
end
end Go.Proofs.YtfnndcpaldkkoaaW.PrintMore
