/- Walks: when a tree is right, how great it is (the program). -/
import Derived.Test.YtjjocahgbmibeaaW3
namespace Go.Proofs.Ytjjocahgbmibeaa
open Go.Eng
set_option maxRecDepth 4000
set_option linter.unusedSimpArgs false
set_option linter.unusedVariables false
/-- The first place where something holds. -/
def idxP {α : Type} (f : α → Bool) : List α → Nat → Int
  | [], _ => -1
  | a :: l, n => if f a = true then n else idxP f l (n + 1)
/-- How many cuts are at most k. -/
def cntK (k : Int) : List Int → Nat
  | [] => 0
  | c :: cs => (if c ≤ k then 1 else 0) + cntK k cs
theorem i_within (x lo hi : Int) : RF Y 118 [i64 x, i64 lo, i64 hi] (.b (decide (lo ≤ x ∧ x ≤ hi))) [] := by
  refine RF.s3 rfl rfl rfl fun Q hQ => ?_
  refine .seq <| .reg <| .mv rfl rfl <| .nil <| .seq <| .reg <| .mv rfl rfl <| .mv rfl rfl <| .geq rfl rfl rfl (fun h1 => ?_) (fun h1 => ?_)
  · refine .mv rfl rfl <| .g rfl rfl <| .mv rfl rfl <| .g rfl rfl <| .mv rfl rfl <| .g rfl rfl <| .leq rfl rfl rfl (fun h2 => ?_) (fun h2 => ?_)
    · refine .pickT rfl rfl rfl <| .mv rfl rfl <| .nil <| .ret rfl hQ (.be (by first | (simp [] at *; done) | (simp [] at *; omega))) LeBs.refl
    · refine .pickT rfl rfl rfl <| .mv rfl rfl <| .nil <| .ret rfl hQ (.be (by first | (simp [] at *; done) | (simp [] at *; omega))) LeBs.refl
  · refine .mv rfl rfl <| .gs rfl rfl rfl <| .gs rfl rfl rfl <| .gs rfl rfl rfl <| .pickF rfl rfl rfl <| .mv rfl rfl <| .nil <| .ret rfl hQ (.be (by first | (simp [] at *; done) | (simp [] at *; omega))) LeBs.refl
def kidOfI (t : Tr) (k : Int) : Int := if t.leaf = true ∨ treeOk t = false then -1 else cntK k t.cs
end Go.Proofs.Ytjjocahgbmibeaa
