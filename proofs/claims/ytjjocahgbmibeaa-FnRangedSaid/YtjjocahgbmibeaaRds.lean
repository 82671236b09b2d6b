/- The system's functions are the program's. Printed by a program of this session. -/
import Derived.Test.YtjjocahgbmibeaaSys
import Derived.Test.YtjjocahgbmibeaaEngZ
import Derived.KernelRfl
namespace Go.Proofs.Ytjjocahgbmibeaa
open Go.Eng
def Rd (f : Nat) (fn : AFn) : Prop := ∃ cf lv, Try.prog.funcs[f]? = some cf ∧ (cf.name == "runtime.NumGoroutine") = false ∧ readFn Try.prog cf fn.modes fn.gone lv = some fn
theorem rd4 : Rd 4 a4 := ⟨_, _, Try.func4, by kernel_rfl, reads4⟩
theorem rd5 : Rd 5 a5 := ⟨_, _, Try.func5, by kernel_rfl, reads5⟩
theorem rd10 : Rd 10 a10 := ⟨_, _, Try.func10, by kernel_rfl, reads10⟩
theorem rd11 : Rd 11 a11 := ⟨_, _, Try.func11, by kernel_rfl, reads11⟩
theorem rd13 : Rd 13 a13 := ⟨_, _, Try.func13, by kernel_rfl, reads13⟩
theorem rd17 : Rd 17 a17 := ⟨_, _, Try.func17, by kernel_rfl, reads17⟩
theorem rd18 : Rd 18 a18 := ⟨_, _, Try.func18, by kernel_rfl, reads18⟩
theorem rd19 : Rd 19 a19 := ⟨_, _, Try.func19, by kernel_rfl, reads19⟩
theorem rd20 : Rd 20 a20 := ⟨_, _, Try.func20, by kernel_rfl, reads20⟩
theorem rd21 : Rd 21 a21 := ⟨_, _, Try.func21, by kernel_rfl, reads21⟩
theorem rd22 : Rd 22 a22 := ⟨_, _, Try.func22, by kernel_rfl, reads22⟩
theorem rd23 : Rd 23 a23 := ⟨_, _, Try.func23, by kernel_rfl, reads23⟩
theorem rd24 : Rd 24 a24 := ⟨_, _, Try.func24, by kernel_rfl, reads24⟩
theorem rd25 : Rd 25 a25 := ⟨_, _, Try.func25, by kernel_rfl, reads25⟩
theorem rd26 : Rd 26 a26 := ⟨_, _, Try.func26, by kernel_rfl, reads26⟩
theorem rd27 : Rd 27 a27 := ⟨_, _, Try.func27, by kernel_rfl, reads27⟩
theorem rd28 : Rd 28 a28 := ⟨_, _, Try.func28, by kernel_rfl, reads28⟩
theorem rd29 : Rd 29 a29 := ⟨_, _, Try.func29, by kernel_rfl, reads29⟩
theorem rd30 : Rd 30 a30 := ⟨_, _, Try.func30, by kernel_rfl, reads30⟩
theorem rd31 : Rd 31 a31 := ⟨_, _, Try.func31, by kernel_rfl, reads31⟩
theorem rd32 : Rd 32 a32 := ⟨_, _, Try.func32, by kernel_rfl, reads32⟩
theorem rd33 : Rd 33 a33 := ⟨_, _, Try.func33, by kernel_rfl, reads33⟩
theorem rd59 : Rd 59 a59 := ⟨_, _, Try.func59, by kernel_rfl, reads59⟩
theorem rd60 : Rd 60 a60 := ⟨_, _, Try.func60, by kernel_rfl, reads60⟩
theorem rd61 : Rd 61 a61 := ⟨_, _, Try.func61, by kernel_rfl, reads61⟩
theorem rd62 : Rd 62 a62 := ⟨_, _, Try.func62, by kernel_rfl, reads62⟩
theorem rd63 : Rd 63 a63 := ⟨_, _, Try.func63, by kernel_rfl, reads63⟩
theorem rd64 : Rd 64 a64 := ⟨_, _, Try.func64, by kernel_rfl, reads64⟩
theorem rd67 : Rd 67 a67 := ⟨_, _, Try.func67, by kernel_rfl, reads67⟩
theorem rd68 : Rd 68 a68 := ⟨_, _, Try.func68, by kernel_rfl, reads68⟩
theorem rd69 : Rd 69 a69 := ⟨_, _, Try.func69, by kernel_rfl, reads69⟩
theorem rd70 : Rd 70 a70 := ⟨_, _, Try.func70, by kernel_rfl, reads70⟩
theorem rd71 : Rd 71 a71 := ⟨_, _, Try.func71, by kernel_rfl, reads71⟩
theorem rd72 : Rd 72 a72 := ⟨_, _, Try.func72, by kernel_rfl, reads72⟩
theorem rd73 : Rd 73 a73 := ⟨_, _, Try.func73, by kernel_rfl, reads73⟩
theorem rd74 : Rd 74 a74 := ⟨_, _, Try.func74, by kernel_rfl, reads74⟩
theorem rd75 : Rd 75 a75 := ⟨_, _, Try.func75, by kernel_rfl, reads75⟩
theorem rd76 : Rd 76 a76 := ⟨_, _, Try.func76, by kernel_rfl, reads76⟩
theorem rd77 : Rd 77 a77 := ⟨_, _, Try.func77, by kernel_rfl, reads77⟩
theorem rd78 : Rd 78 a78 := ⟨_, _, Try.func78, by kernel_rfl, reads78⟩
theorem rd79 : Rd 79 a79 := ⟨_, _, Try.func79, by kernel_rfl, reads79⟩
theorem rd80 : Rd 80 a80 := ⟨_, _, Try.func80, by kernel_rfl, reads80⟩
theorem rd85 : Rd 85 a85 := ⟨_, _, Try.func85, by kernel_rfl, reads85⟩
theorem rd86 : Rd 86 a86 := ⟨_, _, Try.func86, by kernel_rfl, reads86⟩
theorem rd112 : Rd 112 a112 := ⟨_, _, Try.func112, by kernel_rfl, reads112⟩
theorem rd113 : Rd 113 a113 := ⟨_, _, Try.func113, by kernel_rfl, reads113⟩
theorem rd114 : Rd 114 a114 := ⟨_, _, Try.func114, by kernel_rfl, reads114⟩
theorem rd115 : Rd 115 a115 := ⟨_, _, Try.func115, by kernel_rfl, reads115⟩
theorem rd116 : Rd 116 a116 := ⟨_, _, Try.func116, by kernel_rfl, reads116⟩
theorem rd117 : Rd 117 a117 := ⟨_, _, Try.func117, by kernel_rfl, reads117⟩
theorem rd118 : Rd 118 a118 := ⟨_, _, Try.func118, by kernel_rfl, reads118⟩
theorem rd119 : Rd 119 a119 := ⟨_, _, Try.func119, by kernel_rfl, reads119⟩
theorem rd120 : Rd 120 a120 := ⟨_, _, Try.func120, by kernel_rfl, reads120⟩
theorem rd121 : Rd 121 a121 := ⟨_, _, Try.func121, by kernel_rfl, reads121⟩
theorem rd122 : Rd 122 a122 := ⟨_, _, Try.func122, by kernel_rfl, reads122⟩
theorem rd123 : Rd 123 a123 := ⟨_, _, Try.func123, by kernel_rfl, reads123⟩
theorem rd124 : Rd 124 a124 := ⟨_, _, Try.func124, by kernel_rfl, reads124⟩
theorem rd125 : Rd 125 a125 := ⟨_, _, Try.func125, by kernel_rfl, reads125⟩
theorem rd126 : Rd 126 a126 := ⟨_, _, Try.func126, by kernel_rfl, reads126⟩
theorem rd127 : Rd 127 a127 := ⟨_, _, Try.func127, by kernel_rfl, reads127⟩
theorem rd128 : Rd 128 a128 := ⟨_, _, Try.func128, by kernel_rfl, reads128⟩
theorem rd129 : Rd 129 a129 := ⟨_, _, Try.func129, by kernel_rfl, reads129⟩
theorem rd145 : Rd 145 a145 := ⟨_, _, Try.func145, by kernel_rfl, reads145⟩
theorem rd146 : Rd 146 a146 := ⟨_, _, Try.func146, by kernel_rfl, reads146⟩
theorem rd147 : Rd 147 a147 := ⟨_, _, Try.func147, by kernel_rfl, reads147⟩
theorem rd148 : Rd 148 a148 := ⟨_, _, Try.func148, by kernel_rfl, reads148⟩
theorem rd149 : Rd 149 a149 := ⟨_, _, Try.func149, by kernel_rfl, reads149⟩
theorem rd150 : Rd 150 a150 := ⟨_, _, Try.func150, by kernel_rfl, reads150⟩
theorem rd151 : Rd 151 a151 := ⟨_, _, Try.func151, by kernel_rfl, reads151⟩
theorem rd152 : Rd 152 a152 := ⟨_, _, Try.func152, by kernel_rfl, reads152⟩
theorem rd153 : Rd 153 a153 := ⟨_, _, Try.func153, by kernel_rfl, reads153⟩
theorem rd154 : Rd 154 a154 := ⟨_, _, Try.func154, by kernel_rfl, reads154⟩
theorem rd155 : Rd 155 a155 := ⟨_, _, Try.func155, by kernel_rfl, reads155⟩
theorem rd156 : Rd 156 a156 := ⟨_, _, Try.func156, by kernel_rfl, reads156⟩
theorem rd157 : Rd 157 a157 := ⟨_, _, Try.func157, by kernel_rfl, reads157⟩
theorem rd158 : Rd 158 a158 := ⟨_, _, Try.func158, by kernel_rfl, reads158⟩
theorem rd159 : Rd 159 a159 := ⟨_, _, Try.func159, by kernel_rfl, reads159⟩
theorem rd160 : Rd 160 a160 := ⟨_, _, Try.func160, by kernel_rfl, reads160⟩
theorem rd161 : Rd 161 a161 := ⟨_, _, Try.func161, by kernel_rfl, reads161⟩
theorem rd165 : Rd 165 a165 := ⟨_, _, Try.func165, by kernel_rfl, reads165⟩
theorem rd169 : Rd 169 a169 := ⟨_, _, Try.func169, by kernel_rfl, reads169⟩
theorem rd170 : Rd 170 a170 := ⟨_, _, Try.func170, by kernel_rfl, reads170⟩
theorem rd171 : Rd 171 a171 := ⟨_, _, Try.func171, by kernel_rfl, reads171⟩
theorem rd173 : Rd 173 a173 := ⟨_, _, Try.func173, by kernel_rfl, reads173⟩
theorem rd174 : Rd 174 a174 := ⟨_, _, Try.func174, by kernel_rfl, reads174⟩
theorem rd177 : Rd 177 a177 := ⟨_, _, Try.func177, by kernel_rfl, reads177⟩
theorem rd178 : Rd 178 a178 := ⟨_, _, Try.func178, by kernel_rfl, reads178⟩
theorem rd179 : Rd 179 a179 := ⟨_, _, Try.func179, by kernel_rfl, reads179⟩
theorem rd180 : Rd 180 a180 := ⟨_, _, Try.func180, by kernel_rfl, reads180⟩
theorem rd181 : Rd 181 a181 := ⟨_, _, Try.func181, by kernel_rfl, reads181⟩
theorem rd182 : Rd 182 a182 := ⟨_, _, Try.func182, by kernel_rfl, reads182⟩
theorem rd183 : Rd 183 a183 := ⟨_, _, Try.func183, by kernel_rfl, reads183⟩
theorem rd184 : Rd 184 a184 := ⟨_, _, Try.func184, by kernel_rfl, reads184⟩
theorem rd186 : Rd 186 a186 := ⟨_, _, Try.func186, by kernel_rfl, reads186⟩
theorem rd187 : Rd 187 a187 := ⟨_, _, Try.func187, by kernel_rfl, reads187⟩
theorem rd188 : Rd 188 a188 := ⟨_, _, Try.func188, by kernel_rfl, reads188⟩
theorem rd189 : Rd 189 a189 := ⟨_, _, Try.func189, by kernel_rfl, reads189⟩
inductive AllR : List (Nat × AFn) → Prop
  | nil : AllR []
  | cons {k : Nat} {fn : AFn} {l : List (Nat × AFn)} : Rd k fn → AllR l → AllR ((k, fn) :: l)
theorem AllR.get {l : List (Nat × AFn)} (h : AllR l) : ∀ {f : Nat} {fn : AFn}, Eng.look l f = some fn → Rd f fn := by
  induction h with
  | nil => intro f fn h; simp [Eng.look] at h
  | cons h _ ih =>
    intro f fn hf
    simp only [Eng.look] at hf
    split at hf
    · rename_i e; cases hf; subst e; exact h
    · exact ih hf
theorem allR : AllR gamL := .cons rd4 <| .cons rd5 <| .cons rd10 <| .cons rd11 <| .cons rd13 <| .cons rd17 <| .cons rd18 <| .cons rd19 <| .cons rd20 <| .cons rd21 <| .cons rd22 <| .cons rd23 <| .cons rd24 <| .cons rd25 <| .cons rd26 <| .cons rd27 <| .cons rd28 <| .cons rd29 <| .cons rd30 <| .cons rd31 <| .cons rd32 <| .cons rd33 <| .cons rd59 <| .cons rd60 <| .cons rd61 <| .cons rd62 <| .cons rd63 <| .cons rd64 <| .cons rd67 <| .cons rd68 <| .cons rd69 <| .cons rd70 <| .cons rd71 <| .cons rd72 <| .cons rd73 <| .cons rd74 <| .cons rd75 <| .cons rd76 <| .cons rd77 <| .cons rd78 <| .cons rd79 <| .cons rd80 <| .cons rd85 <| .cons rd86 <| .cons rd112 <| .cons rd113 <| .cons rd114 <| .cons rd115 <| .cons rd116 <| .cons rd117 <| .cons rd118 <| .cons rd119 <| .cons rd120 <| .cons rd121 <| .cons rd122 <| .cons rd123 <| .cons rd124 <| .cons rd125 <| .cons rd126 <| .cons rd127 <| .cons rd128 <| .cons rd129 <| .cons rd145 <| .cons rd146 <| .cons rd147 <| .cons rd148 <| .cons rd149 <| .cons rd150 <| .cons rd151 <| .cons rd152 <| .cons rd153 <| .cons rd154 <| .cons rd155 <| .cons rd156 <| .cons rd157 <| .cons rd158 <| .cons rd159 <| .cons rd160 <| .cons rd161 <| .cons rd165 <| .cons rd169 <| .cons rd170 <| .cons rd171 <| .cons rd173 <| .cons rd174 <| .cons rd177 <| .cons rd178 <| .cons rd179 <| .cons rd180 <| .cons rd181 <| .cons rd182 <| .cons rd183 <| .cons rd184 <| .cons rd186 <| .cons rd187 <| .cons rd188 <| .cons rd189 <| .nil
theorem rds : Reads Try.prog gam := fun _ _ h => allR.get h
end Go.Proofs.Ytjjocahgbmibeaa
