/- The functions of this seat as a system of the machine. Printed by a program of this session. -/
import Derived.Test.YtjjocahgbmibeaaGreatCod0
import Derived.Test.YtjjocahgbmibeaaGreatEngOps
import Derived.Test.YtjjocahgbmibeaaGreatEngZ
import Derived.KernelRfl
namespace Go.Proofs.YtjjocahgbmibeaaGreat
open Go.Eng
def gamL : List (Nat × AFn) := [(4, a4), (8, a8), (11, a11), (12, a12), (13, a13), (14, a14), (15, a15), (16, a16), (17, a17), (18, a18), (19, a19), (20, a20), (21, a21), (22, a22), (23, a23), (24, a24), (45, a45), (46, a46), (47, a47), (48, a48), (49, a49), (50, a50), (51, a51), (52, a52), (53, a53), (54, a54), (55, a55), (56, a56), (57, a57), (58, a58), (59, a59), (60, a60), (61, a61), (62, a62), (63, a63), (64, a64), (65, a65), (66, a66), (67, a67), (68, a68), (69, a69), (73, a73), (77, a77), (85, a85), (90, a90), (92, a92), (93, a93), (94, a94), (95, a95), (96, a96), (97, a97), (98, a98), (99, a99), (100, a100), (101, a101), (102, a102), (103, a103), (104, a104), (105, a105), (106, a106), (107, a107), (108, a108), (109, a109), (110, a110), (111, a111), (112, a112), (113, a113), (114, a114), (115, a115), (116, a116), (117, a117), (118, a118), (119, a119), (120, a120), (121, a121), (122, a122), (123, a123), (124, a124), (125, a125), (126, a126), (127, a127), (128, a128), (129, a129), (130, a130), (131, a131), (133, a133), (144, a144), (146, a146), (147, a147), (148, a148), (149, a149), (150, a150), (151, a151), (152, a152), (153, a153), (154, a154), (155, a155), (156, a156), (157, a157), (159, a159), (160, a160), (161, a161), (162, a162), (163, a163), (164, a164), (165, a165), (173, a173), (174, a174), (175, a175), (176, a176), (177, a177), (178, a178), (183, a183)]
def gam (f : Nat) : Option AFn := Eng.look gamL f
def mds : Nat → List Bool
  | 4 => [false]
  | 8 => [false]
  | 11 => [false]
  | 12 => [false, false]
  | 13 => [false, false]
  | 14 => [false, false]
  | 15 => [false]
  | 16 => [false, false]
  | 17 => []
  | 18 => [false]
  | 19 => [false]
  | 20 => [false, false]
  | 21 => [false]
  | 22 => [false]
  | 23 => [false]
  | 24 => [false]
  | 45 => [false]
  | 46 => [false, false, false]
  | 47 => [true]
  | 48 => [false, false, false, false]
  | 49 => [false]
  | 50 => [false]
  | 51 => [false]
  | 52 => [false, false]
  | 53 => [false]
  | 54 => [false]
  | 55 => [true, false]
  | 56 => [false]
  | 57 => [false]
  | 58 => [false]
  | 59 => [false]
  | 60 => [false, false]
  | 61 => [true, false]
  | 62 => [true]
  | 63 => [false, false]
  | 64 => [false, false]
  | 65 => [false]
  | 66 => [false]
  | 67 => [false]
  | 68 => [false]
  | 69 => [true, false]
  | 73 => [false]
  | 77 => [false, false]
  | 85 => [false, false]
  | 90 => [true, false]
  | 92 => [true, false]
  | 93 => [true]
  | 94 => [false, false, false]
  | 95 => [false, false, false]
  | 96 => [false, false]
  | 97 => [false, false, false]
  | 98 => [false]
  | 99 => [false]
  | 100 => [false]
  | 101 => [false]
  | 102 => [false]
  | 103 => [false]
  | 104 => [false]
  | 105 => [false]
  | 106 => [false]
  | 107 => [false, false]
  | 108 => [false, false, false]
  | 109 => [true, false]
  | 110 => [false, false, false]
  | 111 => [false, false]
  | 112 => [false, false, false]
  | 113 => [false, false]
  | 114 => [false, false, false]
  | 115 => [false, false]
  | 116 => [true, false, false]
  | 117 => [false]
  | 118 => [true, false, false]
  | 119 => [false, false, false]
  | 120 => [false]
  | 121 => [false]
  | 122 => [false]
  | 123 => [false, false]
  | 124 => [false]
  | 125 => [false, false]
  | 126 => [false, false, false]
  | 127 => [false, false, false]
  | 128 => [false, false]
  | 129 => [true, false]
  | 130 => [false, false, false, false]
  | 131 => [false, false, false]
  | 133 => [false, false]
  | 144 => [true]
  | 146 => [false, false]
  | 147 => [false, false, false]
  | 148 => [false, false]
  | 149 => [false]
  | 150 => [false, false, false]
  | 151 => [false]
  | 152 => [false, false]
  | 153 => [false]
  | 154 => [false, false]
  | 155 => [false, false]
  | 156 => [false]
  | 157 => [false]
  | 159 => [false, false]
  | 160 => [false, false]
  | 161 => [false, false]
  | 162 => [false, false]
  | 163 => [false]
  | 164 => [false, false]
  | 165 => [false, false, false]
  | 173 => [false, false]
  | 174 => [false, false]
  | 175 => [false, false]
  | 176 => [false, false]
  | 177 => [false, false]
  | 178 => [false, false]
  | 183 => [false]
  | _ => []
def Y : EngSys := ⟨gam, mds, fun f xs r outs => FnSound Tryz.prog (mds f) f xs r outs⟩
end Go.Proofs.YtjjocahgbmibeaaGreat

namespace Go.Proofs.YtjjocahgbmibeaaGreat
open Go.Eng
def Rd (f : Nat) (fn : AFn) : Prop := ∃ cf lv, Tryz.prog.funcs[f]? = some cf ∧ (cf.name == "runtime.NumGoroutine") = false ∧ readFn Tryz.prog cf fn.modes fn.gone lv = some fn
theorem rd4 : Rd 4 a4 := ⟨_, _, Tryz.func4, by kernel_rfl, reads4⟩
theorem rd8 : Rd 8 a8 := ⟨_, _, Tryz.func8, by kernel_rfl, reads8⟩
theorem rd11 : Rd 11 a11 := ⟨_, _, Tryz.func11, by kernel_rfl, reads11⟩
theorem rd12 : Rd 12 a12 := ⟨_, _, Tryz.func12, by kernel_rfl, reads12⟩
theorem rd13 : Rd 13 a13 := ⟨_, _, Tryz.func13, by kernel_rfl, reads13⟩
theorem rd14 : Rd 14 a14 := ⟨_, _, Tryz.func14, by kernel_rfl, reads14⟩
theorem rd15 : Rd 15 a15 := ⟨_, _, Tryz.func15, by kernel_rfl, reads15⟩
theorem rd16 : Rd 16 a16 := ⟨_, _, Tryz.func16, by kernel_rfl, reads16⟩
theorem rd17 : Rd 17 a17 := ⟨_, _, Tryz.func17, by kernel_rfl, reads17⟩
theorem rd18 : Rd 18 a18 := ⟨_, _, Tryz.func18, by kernel_rfl, reads18⟩
theorem rd19 : Rd 19 a19 := ⟨_, _, Tryz.func19, by kernel_rfl, reads19⟩
theorem rd20 : Rd 20 a20 := ⟨_, _, Tryz.func20, by kernel_rfl, reads20⟩
theorem rd21 : Rd 21 a21 := ⟨_, _, Tryz.func21, by kernel_rfl, reads21⟩
theorem rd22 : Rd 22 a22 := ⟨_, _, Tryz.func22, by kernel_rfl, reads22⟩
theorem rd23 : Rd 23 a23 := ⟨_, _, Tryz.func23, by kernel_rfl, reads23⟩
theorem rd24 : Rd 24 a24 := ⟨_, _, Tryz.func24, by kernel_rfl, reads24⟩
theorem rd45 : Rd 45 a45 := ⟨_, _, Tryz.func45, by kernel_rfl, reads45⟩
theorem rd46 : Rd 46 a46 := ⟨_, _, Tryz.func46, by kernel_rfl, reads46⟩
theorem rd47 : Rd 47 a47 := ⟨_, _, Tryz.func47, by kernel_rfl, reads47⟩
theorem rd48 : Rd 48 a48 := ⟨_, _, Tryz.func48, by kernel_rfl, reads48⟩
theorem rd49 : Rd 49 a49 := ⟨_, _, Tryz.func49, by kernel_rfl, reads49⟩
theorem rd50 : Rd 50 a50 := ⟨_, _, Tryz.func50, by kernel_rfl, reads50⟩
theorem rd51 : Rd 51 a51 := ⟨_, _, Tryz.func51, by kernel_rfl, reads51⟩
theorem rd52 : Rd 52 a52 := ⟨_, _, Tryz.func52, by kernel_rfl, reads52⟩
theorem rd53 : Rd 53 a53 := ⟨_, _, Tryz.func53, by kernel_rfl, reads53⟩
theorem rd54 : Rd 54 a54 := ⟨_, _, Tryz.func54, by kernel_rfl, reads54⟩
theorem rd55 : Rd 55 a55 := ⟨_, _, Tryz.func55, by kernel_rfl, reads55⟩
theorem rd56 : Rd 56 a56 := ⟨_, _, Tryz.func56, by kernel_rfl, reads56⟩
theorem rd57 : Rd 57 a57 := ⟨_, _, Tryz.func57, by kernel_rfl, reads57⟩
theorem rd58 : Rd 58 a58 := ⟨_, _, Tryz.func58, by kernel_rfl, reads58⟩
theorem rd59 : Rd 59 a59 := ⟨_, _, Tryz.func59, by kernel_rfl, reads59⟩
theorem rd60 : Rd 60 a60 := ⟨_, _, Tryz.func60, by kernel_rfl, reads60⟩
theorem rd61 : Rd 61 a61 := ⟨_, _, Tryz.func61, by kernel_rfl, reads61⟩
theorem rd62 : Rd 62 a62 := ⟨_, _, Tryz.func62, by kernel_rfl, reads62⟩
theorem rd63 : Rd 63 a63 := ⟨_, _, Tryz.func63, by kernel_rfl, reads63⟩
theorem rd64 : Rd 64 a64 := ⟨_, _, Tryz.func64, by kernel_rfl, reads64⟩
theorem rd65 : Rd 65 a65 := ⟨_, _, Tryz.func65, by kernel_rfl, reads65⟩
theorem rd66 : Rd 66 a66 := ⟨_, _, Tryz.func66, by kernel_rfl, reads66⟩
theorem rd67 : Rd 67 a67 := ⟨_, _, Tryz.func67, by kernel_rfl, reads67⟩
theorem rd68 : Rd 68 a68 := ⟨_, _, Tryz.func68, by kernel_rfl, reads68⟩
theorem rd69 : Rd 69 a69 := ⟨_, _, Tryz.func69, by kernel_rfl, reads69⟩
theorem rd73 : Rd 73 a73 := ⟨_, _, Tryz.func73, by kernel_rfl, reads73⟩
theorem rd77 : Rd 77 a77 := ⟨_, _, Tryz.func77, by kernel_rfl, reads77⟩
theorem rd85 : Rd 85 a85 := ⟨_, _, Tryz.func85, by kernel_rfl, reads85⟩
theorem rd90 : Rd 90 a90 := ⟨_, _, Tryz.func90, by kernel_rfl, reads90⟩
theorem rd92 : Rd 92 a92 := ⟨_, _, Tryz.func92, by kernel_rfl, reads92⟩
theorem rd93 : Rd 93 a93 := ⟨_, _, Tryz.func93, by kernel_rfl, reads93⟩
theorem rd94 : Rd 94 a94 := ⟨_, _, Tryz.func94, by kernel_rfl, reads94⟩
theorem rd95 : Rd 95 a95 := ⟨_, _, Tryz.func95, by kernel_rfl, reads95⟩
theorem rd96 : Rd 96 a96 := ⟨_, _, Tryz.func96, by kernel_rfl, reads96⟩
theorem rd97 : Rd 97 a97 := ⟨_, _, Tryz.func97, by kernel_rfl, reads97⟩
theorem rd98 : Rd 98 a98 := ⟨_, _, Tryz.func98, by kernel_rfl, reads98⟩
theorem rd99 : Rd 99 a99 := ⟨_, _, Tryz.func99, by kernel_rfl, reads99⟩
theorem rd100 : Rd 100 a100 := ⟨_, _, Tryz.func100, by kernel_rfl, reads100⟩
theorem rd101 : Rd 101 a101 := ⟨_, _, Tryz.func101, by kernel_rfl, reads101⟩
theorem rd102 : Rd 102 a102 := ⟨_, _, Tryz.func102, by kernel_rfl, reads102⟩
theorem rd103 : Rd 103 a103 := ⟨_, _, Tryz.func103, by kernel_rfl, reads103⟩
theorem rd104 : Rd 104 a104 := ⟨_, _, Tryz.func104, by kernel_rfl, reads104⟩
theorem rd105 : Rd 105 a105 := ⟨_, _, Tryz.func105, by kernel_rfl, reads105⟩
theorem rd106 : Rd 106 a106 := ⟨_, _, Tryz.func106, by kernel_rfl, reads106⟩
theorem rd107 : Rd 107 a107 := ⟨_, _, Tryz.func107, by kernel_rfl, reads107⟩
theorem rd108 : Rd 108 a108 := ⟨_, _, Tryz.func108, by kernel_rfl, reads108⟩
theorem rd109 : Rd 109 a109 := ⟨_, _, Tryz.func109, by kernel_rfl, reads109⟩
theorem rd110 : Rd 110 a110 := ⟨_, _, Tryz.func110, by kernel_rfl, reads110⟩
theorem rd111 : Rd 111 a111 := ⟨_, _, Tryz.func111, by kernel_rfl, reads111⟩
theorem rd112 : Rd 112 a112 := ⟨_, _, Tryz.func112, by kernel_rfl, reads112⟩
theorem rd113 : Rd 113 a113 := ⟨_, _, Tryz.func113, by kernel_rfl, reads113⟩
theorem rd114 : Rd 114 a114 := ⟨_, _, Tryz.func114, by kernel_rfl, reads114⟩
theorem rd115 : Rd 115 a115 := ⟨_, _, Tryz.func115, by kernel_rfl, reads115⟩
theorem rd116 : Rd 116 a116 := ⟨_, _, Tryz.func116, by kernel_rfl, reads116⟩
theorem rd117 : Rd 117 a117 := ⟨_, _, Tryz.func117, by kernel_rfl, reads117⟩
theorem rd118 : Rd 118 a118 := ⟨_, _, Tryz.func118, by kernel_rfl, reads118⟩
theorem rd119 : Rd 119 a119 := ⟨_, _, Tryz.func119, by kernel_rfl, reads119⟩
theorem rd120 : Rd 120 a120 := ⟨_, _, Tryz.func120, by kernel_rfl, reads120⟩
theorem rd121 : Rd 121 a121 := ⟨_, _, Tryz.func121, by kernel_rfl, reads121⟩
theorem rd122 : Rd 122 a122 := ⟨_, _, Tryz.func122, by kernel_rfl, reads122⟩
theorem rd123 : Rd 123 a123 := ⟨_, _, Tryz.func123, by kernel_rfl, reads123⟩
theorem rd124 : Rd 124 a124 := ⟨_, _, Tryz.func124, by kernel_rfl, reads124⟩
theorem rd125 : Rd 125 a125 := ⟨_, _, Tryz.func125, by kernel_rfl, reads125⟩
theorem rd126 : Rd 126 a126 := ⟨_, _, Tryz.func126, by kernel_rfl, reads126⟩
theorem rd127 : Rd 127 a127 := ⟨_, _, Tryz.func127, by kernel_rfl, reads127⟩
theorem rd128 : Rd 128 a128 := ⟨_, _, Tryz.func128, by kernel_rfl, reads128⟩
theorem rd129 : Rd 129 a129 := ⟨_, _, Tryz.func129, by kernel_rfl, reads129⟩
theorem rd130 : Rd 130 a130 := ⟨_, _, Tryz.func130, by kernel_rfl, reads130⟩
theorem rd131 : Rd 131 a131 := ⟨_, _, Tryz.func131, by kernel_rfl, reads131⟩
theorem rd133 : Rd 133 a133 := ⟨_, _, Tryz.func133, by kernel_rfl, reads133⟩
theorem rd144 : Rd 144 a144 := ⟨_, _, Tryz.func144, by kernel_rfl, reads144⟩
theorem rd146 : Rd 146 a146 := ⟨_, _, Tryz.func146, by kernel_rfl, reads146⟩
theorem rd147 : Rd 147 a147 := ⟨_, _, Tryz.func147, by kernel_rfl, reads147⟩
theorem rd148 : Rd 148 a148 := ⟨_, _, Tryz.func148, by kernel_rfl, reads148⟩
theorem rd149 : Rd 149 a149 := ⟨_, _, Tryz.func149, by kernel_rfl, reads149⟩
theorem rd150 : Rd 150 a150 := ⟨_, _, Tryz.func150, by kernel_rfl, reads150⟩
theorem rd151 : Rd 151 a151 := ⟨_, _, Tryz.func151, by kernel_rfl, reads151⟩
theorem rd152 : Rd 152 a152 := ⟨_, _, Tryz.func152, by kernel_rfl, reads152⟩
theorem rd153 : Rd 153 a153 := ⟨_, _, Tryz.func153, by kernel_rfl, reads153⟩
theorem rd154 : Rd 154 a154 := ⟨_, _, Tryz.func154, by kernel_rfl, reads154⟩
theorem rd155 : Rd 155 a155 := ⟨_, _, Tryz.func155, by kernel_rfl, reads155⟩
theorem rd156 : Rd 156 a156 := ⟨_, _, Tryz.func156, by kernel_rfl, reads156⟩
theorem rd157 : Rd 157 a157 := ⟨_, _, Tryz.func157, by kernel_rfl, reads157⟩
theorem rd159 : Rd 159 a159 := ⟨_, _, Tryz.func159, by kernel_rfl, reads159⟩
theorem rd160 : Rd 160 a160 := ⟨_, _, Tryz.func160, by kernel_rfl, reads160⟩
theorem rd161 : Rd 161 a161 := ⟨_, _, Tryz.func161, by kernel_rfl, reads161⟩
theorem rd162 : Rd 162 a162 := ⟨_, _, Tryz.func162, by kernel_rfl, reads162⟩
theorem rd163 : Rd 163 a163 := ⟨_, _, Tryz.func163, by kernel_rfl, reads163⟩
theorem rd164 : Rd 164 a164 := ⟨_, _, Tryz.func164, by kernel_rfl, reads164⟩
theorem rd165 : Rd 165 a165 := ⟨_, _, Tryz.func165, by kernel_rfl, reads165⟩
theorem rd173 : Rd 173 a173 := ⟨_, _, Tryz.func173, by kernel_rfl, reads173⟩
theorem rd174 : Rd 174 a174 := ⟨_, _, Tryz.func174, by kernel_rfl, reads174⟩
theorem rd175 : Rd 175 a175 := ⟨_, _, Tryz.func175, by kernel_rfl, reads175⟩
theorem rd176 : Rd 176 a176 := ⟨_, _, Tryz.func176, by kernel_rfl, reads176⟩
theorem rd177 : Rd 177 a177 := ⟨_, _, Tryz.func177, by kernel_rfl, reads177⟩
theorem rd178 : Rd 178 a178 := ⟨_, _, Tryz.func178, by kernel_rfl, reads178⟩
theorem rd183 : Rd 183 a183 := ⟨_, _, Tryz.func183, by kernel_rfl, reads183⟩
inductive AllR : List (Nat × AFn) → Prop
  | nil : AllR []
  | cons {k : Nat} {fn : AFn} {l : List (Nat × AFn)} : Rd k fn → AllR l → AllR ((k, fn) :: l)
theorem AllR.get {l : List (Nat × AFn)} (h : AllR l) : ∀ {f : Nat} {fn : AFn}, Eng.look l f = some fn → Rd f fn := by
  induction h with
  | nil => intro f fn h; simp [Eng.look] at h
  | cons h _ ih =>
    intro f fn hf
    simp only [Eng.look] at hf
    split at hf
    · rename_i e; cases hf; subst e; exact h
    · exact ih hf
theorem allR : AllR gamL := .cons rd4 <| .cons rd8 <| .cons rd11 <| .cons rd12 <| .cons rd13 <| .cons rd14 <| .cons rd15 <| .cons rd16 <| .cons rd17 <| .cons rd18 <| .cons rd19 <| .cons rd20 <| .cons rd21 <| .cons rd22 <| .cons rd23 <| .cons rd24 <| .cons rd45 <| .cons rd46 <| .cons rd47 <| .cons rd48 <| .cons rd49 <| .cons rd50 <| .cons rd51 <| .cons rd52 <| .cons rd53 <| .cons rd54 <| .cons rd55 <| .cons rd56 <| .cons rd57 <| .cons rd58 <| .cons rd59 <| .cons rd60 <| .cons rd61 <| .cons rd62 <| .cons rd63 <| .cons rd64 <| .cons rd65 <| .cons rd66 <| .cons rd67 <| .cons rd68 <| .cons rd69 <| .cons rd73 <| .cons rd77 <| .cons rd85 <| .cons rd90 <| .cons rd92 <| .cons rd93 <| .cons rd94 <| .cons rd95 <| .cons rd96 <| .cons rd97 <| .cons rd98 <| .cons rd99 <| .cons rd100 <| .cons rd101 <| .cons rd102 <| .cons rd103 <| .cons rd104 <| .cons rd105 <| .cons rd106 <| .cons rd107 <| .cons rd108 <| .cons rd109 <| .cons rd110 <| .cons rd111 <| .cons rd112 <| .cons rd113 <| .cons rd114 <| .cons rd115 <| .cons rd116 <| .cons rd117 <| .cons rd118 <| .cons rd119 <| .cons rd120 <| .cons rd121 <| .cons rd122 <| .cons rd123 <| .cons rd124 <| .cons rd125 <| .cons rd126 <| .cons rd127 <| .cons rd128 <| .cons rd129 <| .cons rd130 <| .cons rd131 <| .cons rd133 <| .cons rd144 <| .cons rd146 <| .cons rd147 <| .cons rd148 <| .cons rd149 <| .cons rd150 <| .cons rd151 <| .cons rd152 <| .cons rd153 <| .cons rd154 <| .cons rd155 <| .cons rd156 <| .cons rd157 <| .cons rd159 <| .cons rd160 <| .cons rd161 <| .cons rd162 <| .cons rd163 <| .cons rd164 <| .cons rd165 <| .cons rd173 <| .cons rd174 <| .cons rd175 <| .cons rd176 <| .cons rd177 <| .cons rd178 <| .cons rd183 <| .nil
theorem rds : Reads Tryz.prog gam := fun _ _ h => allR.get h
end Go.Proofs.YtjjocahgbmibeaaGreat
