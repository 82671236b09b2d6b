/- The functions of this seat as a system of the machine. Printed by a program of this session. -/
import Derived.Test.YtjjocahgbmibeaaCod0
import Derived.Test.YtjjocahgbmibeaaEngOps
import Derived.Test.YtjjocahgbmibeaaEngZ
import Derived.KernelRfl
namespace Go.Proofs.Ytjjocahgbmibeaa
open Go.Eng
def gamL : List (Nat × AFn) := [(6, a6), (10, a10), (17, a17), (18, a18), (34, a34), (35, a35), (36, a36), (37, a37), (38, a38), (39, a39), (40, a40), (59, a59), (60, a60), (61, a61), (68, a68), (72, a72), (73, a73), (77, a77), (81, a81), (82, a82), (83, a83), (84, a84), (85, a85), (86, a86), (87, a87), (88, a88), (112, a112), (113, a113), (114, a114), (115, a115), (116, a116), (118, a118), (122, a122), (123, a123), (126, a126), (129, a129), (130, a130), (131, a131), (132, a132), (133, a133), (134, a134), (135, a135), (136, a136), (145, a145), (146, a146), (147, a147), (148, a148), (152, a152), (153, a153), (159, a159), (160, a160), (161, a161), (162, a162), (163, a163), (164, a164), (165, a165), (166, a166), (169, a169), (170, a170), (171, a171), (174, a174), (175, a175), (176, a176), (177, a177), (178, a178), (179, a179), (180, a180), (181, a181), (182, a182), (183, a183), (185, a185), (186, a186), (187, a187), (188, a188)]
def gam (f : Nat) : Option AFn := Eng.look gamL f
def mds : Nat → List Bool
  | 6 => [false]
  | 10 => [false]
  | 17 => [false]
  | 18 => [false]
  | 34 => [false]
  | 35 => [false, false]
  | 36 => [false, false]
  | 37 => [false]
  | 38 => [false, false, false]
  | 39 => [false, false, false]
  | 40 => [false]
  | 59 => [false]
  | 60 => [true, false]
  | 61 => [true]
  | 68 => [false, false, false, false]
  | 72 => [false, false]
  | 73 => [false, false]
  | 77 => [true, false]
  | 81 => [false]
  | 82 => [false]
  | 83 => [true, false]
  | 84 => [false]
  | 85 => [false, false, false]
  | 86 => [true, false]
  | 87 => [true]
  | 88 => [false, false]
  | 112 => [true, false]
  | 113 => [true]
  | 114 => []
  | 115 => [false]
  | 116 => [true, false]
  | 118 => [false, false, false]
  | 122 => [false, false, false]
  | 123 => [false]
  | 126 => [false, false]
  | 129 => [true]
  | 130 => [false]
  | 131 => [false, false]
  | 132 => [false]
  | 133 => [false]
  | 134 => [false, false]
  | 135 => [false]
  | 136 => [false, false]
  | 145 => [false, false, false]
  | 146 => [false, false]
  | 147 => [true]
  | 148 => [false]
  | 152 => [false]
  | 153 => [false]
  | 159 => [false, false, false]
  | 160 => [false, false]
  | 161 => [false]
  | 162 => [true, false]
  | 163 => [false, true, true]
  | 164 => [false]
  | 165 => [false, false]
  | 166 => [false]
  | 169 => [false]
  | 170 => [false, false]
  | 171 => [false]
  | 174 => [false, false]
  | 175 => [true, false]
  | 176 => [false, false, false, true]
  | 177 => [false]
  | 178 => [false]
  | 179 => [false]
  | 180 => [false, false]
  | 181 => [false, false, false]
  | 182 => [false, false, false]
  | 183 => [false, false]
  | 185 => [false]
  | 186 => [false, false]
  | 187 => [false, false]
  | 188 => [false, false]
  | _ => []
def Y : EngSys := ⟨gam, mds, fun f xs r outs => FnSound Try.prog (mds f) f xs r outs⟩
end Go.Proofs.Ytjjocahgbmibeaa

namespace Go.Proofs.Ytjjocahgbmibeaa
open Go.Eng
def Rd (f : Nat) (fn : AFn) : Prop := ∃ cf lv, Try.prog.funcs[f]? = some cf ∧ (cf.name == "runtime.NumGoroutine") = false ∧ readFn Try.prog cf fn.modes fn.gone lv = some fn
theorem rd6 : Rd 6 a6 := ⟨_, _, Try.func6, by kernel_rfl, reads6⟩
theorem rd10 : Rd 10 a10 := ⟨_, _, Try.func10, by kernel_rfl, reads10⟩
theorem rd17 : Rd 17 a17 := ⟨_, _, Try.func17, by kernel_rfl, reads17⟩
theorem rd18 : Rd 18 a18 := ⟨_, _, Try.func18, by kernel_rfl, reads18⟩
theorem rd34 : Rd 34 a34 := ⟨_, _, Try.func34, by kernel_rfl, reads34⟩
theorem rd35 : Rd 35 a35 := ⟨_, _, Try.func35, by kernel_rfl, reads35⟩
theorem rd36 : Rd 36 a36 := ⟨_, _, Try.func36, by kernel_rfl, reads36⟩
theorem rd37 : Rd 37 a37 := ⟨_, _, Try.func37, by kernel_rfl, reads37⟩
theorem rd38 : Rd 38 a38 := ⟨_, _, Try.func38, by kernel_rfl, reads38⟩
theorem rd39 : Rd 39 a39 := ⟨_, _, Try.func39, by kernel_rfl, reads39⟩
theorem rd40 : Rd 40 a40 := ⟨_, _, Try.func40, by kernel_rfl, reads40⟩
theorem rd59 : Rd 59 a59 := ⟨_, _, Try.func59, by kernel_rfl, reads59⟩
theorem rd60 : Rd 60 a60 := ⟨_, _, Try.func60, by kernel_rfl, reads60⟩
theorem rd61 : Rd 61 a61 := ⟨_, _, Try.func61, by kernel_rfl, reads61⟩
theorem rd68 : Rd 68 a68 := ⟨_, _, Try.func68, by kernel_rfl, reads68⟩
theorem rd72 : Rd 72 a72 := ⟨_, _, Try.func72, by kernel_rfl, reads72⟩
theorem rd73 : Rd 73 a73 := ⟨_, _, Try.func73, by kernel_rfl, reads73⟩
theorem rd77 : Rd 77 a77 := ⟨_, _, Try.func77, by kernel_rfl, reads77⟩
theorem rd81 : Rd 81 a81 := ⟨_, _, Try.func81, by kernel_rfl, reads81⟩
theorem rd82 : Rd 82 a82 := ⟨_, _, Try.func82, by kernel_rfl, reads82⟩
theorem rd83 : Rd 83 a83 := ⟨_, _, Try.func83, by kernel_rfl, reads83⟩
theorem rd84 : Rd 84 a84 := ⟨_, _, Try.func84, by kernel_rfl, reads84⟩
theorem rd85 : Rd 85 a85 := ⟨_, _, Try.func85, by kernel_rfl, reads85⟩
theorem rd86 : Rd 86 a86 := ⟨_, _, Try.func86, by kernel_rfl, reads86⟩
theorem rd87 : Rd 87 a87 := ⟨_, _, Try.func87, by kernel_rfl, reads87⟩
theorem rd88 : Rd 88 a88 := ⟨_, _, Try.func88, by kernel_rfl, reads88⟩
theorem rd112 : Rd 112 a112 := ⟨_, _, Try.func112, by kernel_rfl, reads112⟩
theorem rd113 : Rd 113 a113 := ⟨_, _, Try.func113, by kernel_rfl, reads113⟩
theorem rd114 : Rd 114 a114 := ⟨_, _, Try.func114, by kernel_rfl, reads114⟩
theorem rd115 : Rd 115 a115 := ⟨_, _, Try.func115, by kernel_rfl, reads115⟩
theorem rd116 : Rd 116 a116 := ⟨_, _, Try.func116, by kernel_rfl, reads116⟩
theorem rd118 : Rd 118 a118 := ⟨_, _, Try.func118, by kernel_rfl, reads118⟩
theorem rd122 : Rd 122 a122 := ⟨_, _, Try.func122, by kernel_rfl, reads122⟩
theorem rd123 : Rd 123 a123 := ⟨_, _, Try.func123, by kernel_rfl, reads123⟩
theorem rd126 : Rd 126 a126 := ⟨_, _, Try.func126, by kernel_rfl, reads126⟩
theorem rd129 : Rd 129 a129 := ⟨_, _, Try.func129, by kernel_rfl, reads129⟩
theorem rd130 : Rd 130 a130 := ⟨_, _, Try.func130, by kernel_rfl, reads130⟩
theorem rd131 : Rd 131 a131 := ⟨_, _, Try.func131, by kernel_rfl, reads131⟩
theorem rd132 : Rd 132 a132 := ⟨_, _, Try.func132, by kernel_rfl, reads132⟩
theorem rd133 : Rd 133 a133 := ⟨_, _, Try.func133, by kernel_rfl, reads133⟩
theorem rd134 : Rd 134 a134 := ⟨_, _, Try.func134, by kernel_rfl, reads134⟩
theorem rd135 : Rd 135 a135 := ⟨_, _, Try.func135, by kernel_rfl, reads135⟩
theorem rd136 : Rd 136 a136 := ⟨_, _, Try.func136, by kernel_rfl, reads136⟩
theorem rd145 : Rd 145 a145 := ⟨_, _, Try.func145, by kernel_rfl, reads145⟩
theorem rd146 : Rd 146 a146 := ⟨_, _, Try.func146, by kernel_rfl, reads146⟩
theorem rd147 : Rd 147 a147 := ⟨_, _, Try.func147, by kernel_rfl, reads147⟩
theorem rd148 : Rd 148 a148 := ⟨_, _, Try.func148, by kernel_rfl, reads148⟩
theorem rd152 : Rd 152 a152 := ⟨_, _, Try.func152, by kernel_rfl, reads152⟩
theorem rd153 : Rd 153 a153 := ⟨_, _, Try.func153, by kernel_rfl, reads153⟩
theorem rd159 : Rd 159 a159 := ⟨_, _, Try.func159, by kernel_rfl, reads159⟩
theorem rd160 : Rd 160 a160 := ⟨_, _, Try.func160, by kernel_rfl, reads160⟩
theorem rd161 : Rd 161 a161 := ⟨_, _, Try.func161, by kernel_rfl, reads161⟩
theorem rd162 : Rd 162 a162 := ⟨_, _, Try.func162, by kernel_rfl, reads162⟩
theorem rd163 : Rd 163 a163 := ⟨_, _, Try.func163, by kernel_rfl, reads163⟩
theorem rd164 : Rd 164 a164 := ⟨_, _, Try.func164, by kernel_rfl, reads164⟩
theorem rd165 : Rd 165 a165 := ⟨_, _, Try.func165, by kernel_rfl, reads165⟩
theorem rd166 : Rd 166 a166 := ⟨_, _, Try.func166, by kernel_rfl, reads166⟩
theorem rd169 : Rd 169 a169 := ⟨_, _, Try.func169, by kernel_rfl, reads169⟩
theorem rd170 : Rd 170 a170 := ⟨_, _, Try.func170, by kernel_rfl, reads170⟩
theorem rd171 : Rd 171 a171 := ⟨_, _, Try.func171, by kernel_rfl, reads171⟩
theorem rd174 : Rd 174 a174 := ⟨_, _, Try.func174, by kernel_rfl, reads174⟩
theorem rd175 : Rd 175 a175 := ⟨_, _, Try.func175, by kernel_rfl, reads175⟩
theorem rd176 : Rd 176 a176 := ⟨_, _, Try.func176, by kernel_rfl, reads176⟩
theorem rd177 : Rd 177 a177 := ⟨_, _, Try.func177, by kernel_rfl, reads177⟩
theorem rd178 : Rd 178 a178 := ⟨_, _, Try.func178, by kernel_rfl, reads178⟩
theorem rd179 : Rd 179 a179 := ⟨_, _, Try.func179, by kernel_rfl, reads179⟩
theorem rd180 : Rd 180 a180 := ⟨_, _, Try.func180, by kernel_rfl, reads180⟩
theorem rd181 : Rd 181 a181 := ⟨_, _, Try.func181, by kernel_rfl, reads181⟩
theorem rd182 : Rd 182 a182 := ⟨_, _, Try.func182, by kernel_rfl, reads182⟩
theorem rd183 : Rd 183 a183 := ⟨_, _, Try.func183, by kernel_rfl, reads183⟩
theorem rd185 : Rd 185 a185 := ⟨_, _, Try.func185, by kernel_rfl, reads185⟩
theorem rd186 : Rd 186 a186 := ⟨_, _, Try.func186, by kernel_rfl, reads186⟩
theorem rd187 : Rd 187 a187 := ⟨_, _, Try.func187, by kernel_rfl, reads187⟩
theorem rd188 : Rd 188 a188 := ⟨_, _, Try.func188, by kernel_rfl, reads188⟩
inductive AllR : List (Nat × AFn) → Prop
  | nil : AllR []
  | cons {k : Nat} {fn : AFn} {l : List (Nat × AFn)} : Rd k fn → AllR l → AllR ((k, fn) :: l)
theorem AllR.get {l : List (Nat × AFn)} (h : AllR l) : ∀ {f : Nat} {fn : AFn}, Eng.look l f = some fn → Rd f fn := by
  induction h with
  | nil => intro f fn h; simp [Eng.look] at h
  | cons h _ ih =>
    intro f fn hf
    simp only [Eng.look] at hf
    split at hf
    · rename_i e; cases hf; subst e; exact h
    · exact ih hf
theorem allR : AllR gamL := .cons rd6 <| .cons rd10 <| .cons rd17 <| .cons rd18 <| .cons rd34 <| .cons rd35 <| .cons rd36 <| .cons rd37 <| .cons rd38 <| .cons rd39 <| .cons rd40 <| .cons rd59 <| .cons rd60 <| .cons rd61 <| .cons rd68 <| .cons rd72 <| .cons rd73 <| .cons rd77 <| .cons rd81 <| .cons rd82 <| .cons rd83 <| .cons rd84 <| .cons rd85 <| .cons rd86 <| .cons rd87 <| .cons rd88 <| .cons rd112 <| .cons rd113 <| .cons rd114 <| .cons rd115 <| .cons rd116 <| .cons rd118 <| .cons rd122 <| .cons rd123 <| .cons rd126 <| .cons rd129 <| .cons rd130 <| .cons rd131 <| .cons rd132 <| .cons rd133 <| .cons rd134 <| .cons rd135 <| .cons rd136 <| .cons rd145 <| .cons rd146 <| .cons rd147 <| .cons rd148 <| .cons rd152 <| .cons rd153 <| .cons rd159 <| .cons rd160 <| .cons rd161 <| .cons rd162 <| .cons rd163 <| .cons rd164 <| .cons rd165 <| .cons rd166 <| .cons rd169 <| .cons rd170 <| .cons rd171 <| .cons rd174 <| .cons rd175 <| .cons rd176 <| .cons rd177 <| .cons rd178 <| .cons rd179 <| .cons rd180 <| .cons rd181 <| .cons rd182 <| .cons rd183 <| .cons rd185 <| .cons rd186 <| .cons rd187 <| .cons rd188 <| .nil
theorem rds : Reads Try.prog gam := fun _ _ h => allR.get h
end Go.Proofs.Ytjjocahgbmibeaa
