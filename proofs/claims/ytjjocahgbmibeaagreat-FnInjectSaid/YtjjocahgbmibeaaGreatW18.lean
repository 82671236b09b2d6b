/- The laws FnBuilt and FnInjected: their walks. -/
import Derived.Test.YtjjocahgbmibeaaGreatW17
namespace Go.Proofs.YtjjocahgbmibeaaGreat
open Go.Eng
set_option maxRecDepth 4000
set_option linter.unusedSimpArgs false
set_option linter.unusedVariables false
theorem inj_step {t : Tr} {m : Ms} (ht : treeOk t = true) (hm : m.ok = true) (hq : t.q ≤ 250) : tmap (inject t m) = mapDo (tmap t) m := by
  by_cases h4 : m.op = 4
  · have e1 : inject t m = t := by unfold inject; rw [if_neg (fun q => q.2.2 h4)]
    have e2 : mapDo (tmap t) m = tmap t := by
      unfold mapDo
      split
      · rw [if_neg (by omega), if_neg (by omega), if_neg (by omega)]
      · rfl
    rw [e1, e2]
  · exact (inject_map ht hm h4 hq).2.1
theorem i_MapDo (ps : List Pr) (m : Ms) (h : ps.length < 1000000) : RF Y 13 [.fro true 2 (ps.map Pr.c), .agg (Ms.c m)] (.own true 2 0 ((mapDo ps m).map Pr.c)) [] := by
  refine RF.s2 rfl rfl rfl fun Q hQ => ?_
  refine .seq <| .reg <| .box rfl rfl rfl <| .mv rfl rfl <| .nil <| .seq <| .reg <| .mv rfl rfl <| .c rfl rfl rfl (Clone_Pair ps (by omega)) .refl rfl rfl rfl (by decide) <| .mv rfl rfl <| .nil <| .seq <| .seq <| .reg <| .mv rfl rfl <| .c rfl rfl rfl (i_MapOk ps (by omega)) .refl rfl rfl rfl (by decide) <| .bB (fun h1 => ?_) (fun h1 => ?_)
  · refine .notT rfl rfl <| .mv rfl rfl <| .g rfl rfl <| .aE rfl rfl rfl rfl <| .g rfl rfl <| .c rfl rfl rfl (i_MsgOk m) .refl rfl rfl rfl (by decide) <| .bB (fun h2 => ?_) (fun h2 => ?_)
    · refine .g rfl rfl <| .notT rfl rfl <| .pickF rfl rfl rfl <| .nil <| .condF rfl <| .skip <| .seq <| .reg <| .mv rfl rfl <| .aE rfl rfl rfl rfl <| .cM rfl rfl rfl (i_changed ps m h h1 h2) (.c .r (.c .r .n)) rfl rfl (by decide) <| .mv rfl rfl <| .nil <| .ret rfl hQ (.rw (by first | exact fun _ => rfl | exact fun h => by cases h)) LeBs.refl
    · rw [mapDo_bad ps h2] at hQ
      refine .g rfl rfl <| .notF rfl rfl <| .pickF rfl rfl rfl <| .nil <| .condT rfl <| .seq <| .reg <| .mv rfl rfl <| .mv rfl rfl <| .nil <| .ret rfl hQ (.rw (by first | exact fun _ => rfl | exact fun h => by cases h)) LeBs.refl
  · rw [show mapDo ps m = ps by simp [mapDo, h1]] at hQ
    refine .notF rfl rfl <| .mv rfl rfl <| .gs rfl rfl rfl <| .gs rfl rfl rfl <| .gs rfl rfl rfl <| .pickT rfl rfl rfl <| .nil <| .condT rfl <| .seq <| .reg <| .mv rfl rfl <| .mv rfl rfl <| .nil <| .ret rfl hQ (.rw (by first | exact fun _ => rfl | exact fun h => by cases h)) LeBs.refl
end Go.Proofs.YtjjocahgbmibeaaGreat
