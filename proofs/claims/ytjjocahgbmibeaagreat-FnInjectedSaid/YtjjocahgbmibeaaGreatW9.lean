/- Walks: trees drawn. -/
import Derived.Test.YtjjocahgbmibeaaGreatW7
import Derived.Test.YtjjocahgbmibeaaGreatA5
namespace Go.Proofs.YtjjocahgbmibeaaGreat
open Go.Eng
set_option maxRecDepth 4000
set_option linter.unusedSimpArgs false
set_option linter.unusedVariables false
theorem inject_ok {t : Tr} (m : Ms) (h : treeOk t = true) : treeOk (inject t m) = true ∧ (inject t m).w ≤ t.w + 2 := by
  obtain ⟨h1, h2, h3⟩ := treeOk_wf h
  obtain ⟨g1, g2⟩ := give_wf (tdepth t) t [m] h1
  obtain ⟨_, r2⟩ := root_wf (show 0 < tdepth t from h2) g1
  rw [List.length_singleton] at g2
  unfold inject
  split
  · split
    · rename_i hk; exact ⟨hk, by omega⟩
    · exact ⟨h, by omega⟩
  · exact ⟨h, by omega⟩
theorem ok_sz {t : Tr} (h : treeOk t = true) : t.sz + 2 ≤ 3 * t.w := (treeOk_wf h).1.sz
theorem Tr.w_le (t : Tr) : t.w ≤ 1 + t.ps.length + 2 * t.bs.length + Tr.wL t.ks := by rw [Tr.w_eq]; split <;> omega
theorem Tr.q_le (t : Tr) : t.q ≤ t.ps.length + 2 + t.bs.length + Tr.qL t.ks := by rw [Tr.q_eq]; split <;> omega
theorem inject_q {t : Tr} (m : Ms) (h : treeOk t = true) (hq : t.q ≤ 250) : (inject t m).q ≤ t.q + 1 := by
  by_cases hm : m.ok = true ∧ m.op ≠ 4
  · exact (inject_map h hm.1 hm.2 hq).2.2
  · have : inject t m = t := by unfold inject; rw [if_neg (fun q => hm q.2)]
    rw [this]; omega
def Tr.B (t : Tr) : Prop := t.w ≤ 1000 ∧ t.sz ≤ 3000 ∧ t.q ≤ 200
theorem Tr.B.of {t : Tr} (h1 : 1 + t.ps.length + 2 * t.bs.length + Tr.wL t.ks ≤ 1000) (h2 : t.sz ≤ 3000) (h3 : t.ps.length + 2 + t.bs.length + Tr.qL t.ks ≤ 200) : t.B := ⟨Nat.le_trans t.w_le h1, h2, Nat.le_trans t.q_le h3⟩
end Go.Proofs.YtjjocahgbmibeaaGreat

namespace Go.Proofs.YtjjocahgbmibeaaGreat
open Go.Eng
set_option maxRecDepth 4000
set_option linter.unusedSimpArgs false
set_option linter.unusedVariables false
theorem l_big (code : List UInt8) : RF Y 8 [.fro true 1 (code.map Bc)] (.b (decide ((code.length : Int) > 1048576))) [] := by
  refine RF.s1 rfl rfl rfl fun Q hQ => ?_
  refine .seq <| .reg <| .mv rfl rfl <| .nil <| .seq <| .reg <| .mv rfl rfl <| .len rfl rfl rfl <| .gtr rfl rfl rfl (fun h1 => ?_) (fun h1 => ?_)
  · refine .mv rfl rfl <| .nil <| .ret rfl hQ (.be (by first | (simp at *; done) | (simp at *; omega))) LeBs.refl
  · refine .mv rfl rfl <| .nil <| .ret rfl hQ (.be (by first | (simp at *; done) | (simp at *; omega))) LeBs.refl
end Go.Proofs.YtjjocahgbmibeaaGreat
