/- Code of the program's functions as code of the machine, and that it is theirs. Printed by a program of this session. -/
import Derived.Test.YtjjocahgbmibeaaEngB
import Derived.Test.YtjjocahgbmibeaaProg
import Derived.KernelRfl
namespace Go.Proofs.Ytjjocahgbmibeaa
open Go.Eng
-- laws.FnGot
def a4_r0 : List AOper := [⟨some 2, .mv (.c (.b false)), none⟩]
def a4_r1 : List AOper := [⟨some 13, .mv (.t 0), none⟩,
  ⟨some 14, .call (.c (.clo 10 [])) [.t 13], none⟩]
def a4_r2 : List AOper := [⟨some 2, .mv (.c (.b true)), none⟩]
def a4_r3 : List AOper := [⟨some 16, .mv (.t 0), none⟩,
  ⟨some 17, .call (.c (.clo 19 [])) [.t 16], none⟩,
  ⟨some 15, .mv (.t 17), none⟩,
  ⟨some 18, .ex (.t 15) 0, none⟩,
  ⟨some 19, .ex (.t 15) 1, none⟩,
  ⟨some 3, .new [.b false, .emp, .emp, .emp, .emp], none⟩,
  ⟨none, .st 5 (.t 3) (.t 18), none⟩,
  ⟨some 4, .mv (.t 19), none⟩]
def a4_r4 : List AOper := [⟨some 21, .ld 5 true (.t 3), none⟩,
  ⟨some 22, .mv (.t 4), none⟩,
  ⟨some 23, .call (.c (.clo 20 [])) [.t 21, .t 22], none⟩,
  ⟨some 20, .mv (.t 23), none⟩,
  ⟨some 24, .ex (.t 20) 0, none⟩,
  ⟨some 25, .ex (.t 20) 1, none⟩,
  ⟨some 5, .mv (.t 24), none⟩,
  ⟨some 6, .mv (.t 25), none⟩]
def a4_r5 : List AOper := [⟨some 27, .ld 5 true (.t 3), none⟩,
  ⟨some 28, .mv (.t 4), none⟩,
  ⟨some 29, .call (.c (.clo 21 [])) [.t 27, .t 28], none⟩,
  ⟨some 26, .mv (.t 29), none⟩,
  ⟨some 30, .ex (.t 26) 0, none⟩,
  ⟨some 31, .ex (.t 26) 1, none⟩,
  ⟨some 7, .mv (.t 30), none⟩,
  ⟨some 8, .mv (.t 31), none⟩]
def a4_r6 : List AOper := [⟨some 32, .mv (.t 5), none⟩,
  ⟨some 33, .mv (.t 7), none⟩,
  ⟨some 34, .bin .neq (.t 32) (.t 33), none⟩,
  ⟨some 35, .mv (.t 34), none⟩,
  ⟨some 36, .mv (.t 6), some (35, false)⟩,
  ⟨some 37, .mv (.t 8), some (35, false)⟩,
  ⟨some 38, .eqb true (.t 36) (.t 37), some (35, false)⟩,
  ⟨some 39, .pick (.t 35) (.c (.b true)) (.t 38), none⟩]
def a4_r7 : List AOper := [⟨some 2, .mv (.c (.b false)), none⟩]
def a4_r8 : List AOper := [⟨some 40, .ld 5 true (.t 3), none⟩,
  ⟨some 41, .mv (.t 4), none⟩,
  ⟨some 42, .call (.c (.clo 22 [])) [.t 40, .t 41], none⟩,
  ⟨some 9, .mv (.t 42), none⟩]
def a4_r9 : List AOper := [⟨some 43, .mv (.t 9), none⟩,
  ⟨some 44, .ld 5 true (.t 3), none⟩,
  ⟨some 45, .mv (.t 4), none⟩,
  ⟨some 46, .call (.c (.clo 24 [])) [.t 44, .t 45], none⟩,
  ⟨some 47, .call (.c (.clo 23 [])) [.t 43, .t 46], none⟩,
  ⟨some 48, .un .not (.t 47), none⟩]
def a4_r10 : List AOper := [⟨some 2, .mv (.c (.b false)), none⟩]
def a4_r11 : List AOper := [⟨some 10, .mv (.c (.i .i64 0)), none⟩]
def a4_r12 : List AOper := [⟨some 49, .mv (.t 10), none⟩,
  ⟨some 50, .mv (.t 9), none⟩,
  ⟨some 51, .len false (.t 50), none⟩,
  ⟨some 52, .bin .lss (.t 49) (.t 51), none⟩]
def a4_r14 : List AOper := [⟨some 55, .mv (.t 9), none⟩,
  ⟨some 56, .mv (.t 10), none⟩,
  ⟨some 57, .ia 3 (.t 55) (.t 56), none⟩,
  ⟨some 58, .fa 1 (.t 57), none⟩,
  ⟨some 59, .ld 1 false (.t 58), none⟩,
  ⟨some 60, .mv (.t 4), none⟩,
  ⟨some 61, .bin .neq (.t 59) (.t 60), none⟩]
def a4_r15 : List AOper := [⟨some 2, .mv (.c (.b false)), none⟩]
def a4_r13 : List AOper := [⟨some 53, .mv (.t 10), none⟩,
  ⟨some 54, .bin .add (.t 53) (.c (.i .i64 1)), none⟩,
  ⟨some 10, .mv (.t 54), none⟩]
def a4_l1 : ACode := .seq (.seq (.reg a4_r12 false []) (.cond (.t 52) (.skip) (.exit 0))) (.seq (.block 1 (.seq (.reg a4_r14 false []) (.cond (.t 61) (.seq (.reg a4_r15 false []) (.ret)) (.skip)))) (.reg a4_r13 false []))
def a4_r16 : List AOper := [⟨some 63, .ld 5 true (.t 3), none⟩,
  ⟨some 64, .call (.c (.clo 26 [])) [.t 63], none⟩,
  ⟨some 65, .mv (.t 4), none⟩,
  ⟨some 66, .call (.c (.clo 25 [])) [.t 64, .t 65], none⟩,
  ⟨some 62, .mv (.t 66), none⟩,
  ⟨some 67, .ex (.t 62) 0, none⟩,
  ⟨some 68, .ex (.t 62) 1, none⟩,
  ⟨some 11, .mv (.t 67), none⟩,
  ⟨some 12, .mv (.t 68), none⟩]
def a4_r17 : List AOper := [⟨some 69, .mv (.t 5), none⟩,
  ⟨some 70, .mv (.t 11), none⟩,
  ⟨some 71, .bin .eql (.t 69) (.t 70), none⟩,
  ⟨some 72, .mv (.t 71), none⟩,
  ⟨some 73, .mv (.t 6), some (72, true)⟩,
  ⟨some 74, .mv (.t 12), some (72, true)⟩,
  ⟨some 75, .eqb false (.t 73) (.t 74), some (72, true)⟩,
  ⟨some 76, .pick (.t 72) (.t 75) (.c (.b false)), none⟩,
  ⟨some 77, .mv (.t 76), none⟩,
  ⟨some 78, .ld 5 true (.t 3), some (77, true)⟩,
  ⟨some 79, .call (.c (.clo 18 [])) [.t 78], some (77, true)⟩,
  ⟨some 80, .mv (.t 79), some (77, true)⟩,
  ⟨some 81, .mv (.t 9), some (80, false)⟩,
  ⟨some 82, .len false (.t 81), some (80, false)⟩,
  ⟨some 83, .bin .eql (.t 82) (.c (.i .i64 0)), some (80, false)⟩,
  ⟨some 84, .pick (.t 80) (.c (.b true)) (.t 83), some (77, true)⟩,
  ⟨some 85, .pick (.t 77) (.t 84) (.c (.b false)), none⟩,
  ⟨some 2, .mv (.t 85), none⟩]
def a4 : AFn := ⟨[false], .seq (.reg a4_r0 false []) (.seq (.seq (.reg a4_r1 false []) (.cond (.t 14) (.seq (.reg a4_r2 false []) (.ret)) (.skip))) (.seq (.reg a4_r3 false []) (.seq (.reg a4_r4 false []) (.seq (.reg a4_r5 false []) (.seq (.seq (.reg a4_r6 false []) (.cond (.t 39) (.seq (.reg a4_r7 false []) (.ret)) (.skip))) (.seq (.reg a4_r8 false []) (.seq (.seq (.reg a4_r9 false []) (.cond (.t 48) (.seq (.reg a4_r10 false []) (.ret)) (.skip))) (.seq (.seq (.reg a4_r11 false []) (.block 0 (.loop [] a4_l1))) (.seq (.reg a4_r16 false []) (.seq (.reg a4_r17 false []) (.ret))))))))))), [.t 2], []⟩
theorem reads4 : readFn Try.prog Try.f4 [false] [] [[]] = some a4 := by kernel_rfl
-- laws.FnRanged
def a5_r0 : List AOper := [⟨some 2, .mv (.c (.b false)), none⟩]
def a5_r1 : List AOper := [⟨some 8, .mv (.t 0), none⟩,
  ⟨some 9, .call (.c (.clo 10 [])) [.t 8], none⟩]
def a5_r2 : List AOper := [⟨some 2, .mv (.c (.b true)), none⟩]
def a5_r3 : List AOper := [⟨some 11, .mv (.t 0), none⟩,
  ⟨some 12, .call (.c (.clo 27 [])) [.t 11], none⟩,
  ⟨some 10, .mv (.t 12), none⟩,
  ⟨some 13, .ex (.t 10) 0, none⟩,
  ⟨some 14, .ex (.t 10) 1, none⟩,
  ⟨some 15, .ex (.t 10) 2, none⟩,
  ⟨some 3, .new [.b false, .emp, .emp, .emp, .emp], none⟩,
  ⟨none, .st 5 (.t 3) (.t 13), none⟩,
  ⟨some 4, .mv (.t 14), none⟩,
  ⟨some 5, .mv (.t 15), none⟩]
def a5_r4 : List AOper := [⟨some 16, .ld 5 true (.t 3), none⟩,
  ⟨some 17, .mv (.t 4), none⟩,
  ⟨some 18, .mv (.t 5), none⟩,
  ⟨some 19, .call (.c (.clo 28 [])) [.t 16, .t 17, .t 18], none⟩,
  ⟨some 6, .mv (.t 19), none⟩]
def a5_r5 : List AOper := [⟨some 20, .mv (.t 6), none⟩,
  ⟨some 21, .ld 5 true (.t 3), none⟩,
  ⟨some 22, .mv (.t 4), none⟩,
  ⟨some 23, .mv (.t 5), none⟩,
  ⟨some 24, .call (.c (.clo 30 [])) [.t 21, .t 22, .t 23], none⟩,
  ⟨some 25, .call (.c (.clo 29 [])) [.t 20, .t 24], none⟩,
  ⟨some 26, .un .not (.t 25), none⟩,
  ⟨some 27, .mv (.t 26), none⟩,
  ⟨some 28, .ld 5 true (.t 3), some (27, false)⟩,
  ⟨some 29, .call (.c (.clo 26 [])) [.t 28], some (27, false)⟩,
  ⟨some 30, .ld 5 true (.t 3), some (27, false)⟩,
  ⟨some 31, .call (.c (.clo 31 [])) [.t 30], some (27, false)⟩,
  ⟨some 32, .call (.c (.clo 29 [])) [.t 29, .t 31], some (27, false)⟩,
  ⟨some 33, .un .not (.t 32), some (27, false)⟩,
  ⟨some 34, .pick (.t 27) (.c (.b true)) (.t 33), none⟩]
def a5_r6 : List AOper := [⟨some 2, .mv (.c (.b false)), none⟩]
def a5_r7 : List AOper := [⟨some 35, .mv (.t 4), none⟩,
  ⟨some 36, .mv (.t 0), none⟩,
  ⟨some 37, .call (.c (.clo 32 [])) [.t 36, .c (.i .i64 1)], none⟩,
  ⟨some 38, .bin .rem (.t 37) (.c (.i .i64 25)), none⟩,
  ⟨some 39, .bin .add (.t 35) (.t 38), none⟩,
  ⟨some 7, .mv (.t 39), none⟩]
def a5_r8 : List AOper := [⟨some 40, .mv (.t 7), none⟩,
  ⟨some 41, .mv (.t 5), none⟩,
  ⟨some 42, .bin .gtr (.t 40) (.t 41), none⟩]
def a5_r9 : List AOper := [⟨some 43, .mv (.t 5), none⟩,
  ⟨some 7, .mv (.t 43), none⟩]
def a5_r10 : List AOper := [⟨some 44, .ld 5 true (.t 3), none⟩,
  ⟨some 45, .mv (.t 4), none⟩,
  ⟨some 46, .mv (.t 7), none⟩,
  ⟨some 47, .call (.c (.clo 28 [])) [.t 44, .t 45, .t 46], none⟩,
  ⟨some 48, .ld 5 true (.t 3), none⟩,
  ⟨some 49, .mv (.t 7), none⟩,
  ⟨some 50, .mv (.t 5), none⟩,
  ⟨some 51, .call (.c (.clo 28 [])) [.t 48, .t 49, .t 50], none⟩,
  ⟨some 52, .ap 2 16 (.t 47) (.t 51), none⟩,
  ⟨some 53, .mv (.t 6), none⟩,
  ⟨some 54, .call (.c (.clo 29 [])) [.t 52, .t 53], none⟩,
  ⟨some 55, .mv (.t 54), none⟩,
  ⟨some 56, .ld 5 true (.t 3), some (55, true)⟩,
  ⟨some 57, .call (.c (.clo 28 [])) [.t 56, .c (.i .i64 0), .c (.i .i64 1000)], some (55, true)⟩,
  ⟨some 58, .ld 5 true (.t 3), some (55, true)⟩,
  ⟨some 59, .call (.c (.clo 26 [])) [.t 58], some (55, true)⟩,
  ⟨some 60, .call (.c (.clo 29 [])) [.t 57, .t 59], some (55, true)⟩,
  ⟨some 61, .pick (.t 55) (.t 60) (.c (.b false)), none⟩,
  ⟨some 62, .mv (.t 61), none⟩,
  ⟨some 63, .mv (.t 6), some (62, true)⟩,
  ⟨some 64, .call (.c (.clo 33 [])) [.t 63], some (62, true)⟩,
  ⟨some 65, .pick (.t 62) (.t 64) (.c (.b false)), none⟩,
  ⟨some 2, .mv (.t 65), none⟩]
def a5 : AFn := ⟨[false], .seq (.reg a5_r0 false []) (.seq (.seq (.reg a5_r1 false []) (.cond (.t 9) (.seq (.reg a5_r2 false []) (.ret)) (.skip))) (.seq (.reg a5_r3 false []) (.seq (.reg a5_r4 false []) (.seq (.seq (.reg a5_r5 true [(9, 10)]) (.cond (.t 34) (.seq (.reg a5_r6 false []) (.ret)) (.skip))) (.seq (.reg a5_r7 false []) (.seq (.seq (.reg a5_r8 false []) (.cond (.t 42) (.reg a5_r9 false []) (.skip))) (.seq (.reg a5_r10 true [(3, 4), (13, 14)]) (.ret)))))))), [.t 2], []⟩
theorem reads5 : readFn Try.prog Try.f5 [false] [] [] = some a5 := by kernel_rfl
-- laws.big
def a10_r0 : List AOper := [⟨some 2, .mv (.c (.b false)), none⟩]
def a10_r1 : List AOper := [⟨some 3, .mv (.t 0), none⟩,
  ⟨some 4, .len false (.t 3), none⟩,
  ⟨some 5, .bin .gtr (.t 4) (.c (.i .i64 1048576)), none⟩,
  ⟨some 2, .mv (.t 5), none⟩]
def a10 : AFn := ⟨[false], .seq (.reg a10_r0 false []) (.seq (.reg a10_r1 false []) (.ret)), [.t 2], []⟩
theorem reads10 : readFn Try.prog Try.f10 [false] [] [] = some a10 := by kernel_rfl
-- spec.DrawKidOf
def a11_r0 : List AOper := [⟨some 2, .new [.b false, .emp, .emp, .emp, .emp], none⟩,
  ⟨some 3, .mv (.c (.i .i64 0)), none⟩]
def a11_r1 : List AOper := [⟨some 6, .mv (.t 0), none⟩,
  ⟨some 7, .call (.c (.clo 59 [])) [.t 6], none⟩,
  ⟨some 4, .mv (.t 7), none⟩]
def a11_r2 : List AOper := [⟨some 8, .mv (.t 4), none⟩,
  ⟨some 9, .mv (.t 0), none⟩,
  ⟨some 10, .call (.c (.clo 60 [])) [.t 8, .t 9], none⟩,
  ⟨some 5, .new [.b false, .emp, .emp, .emp, .emp], none⟩,
  ⟨none, .st 5 (.t 5) (.t 10), none⟩]
def a11_r3 : List AOper := [⟨some 11, .ld 5 true (.t 5), none⟩,
  ⟨some 12, .mv (.t 4), none⟩,
  ⟨some 13, .call (.c (.clo 61 [])) [.t 12], none⟩,
  ⟨none, .st 5 (.t 2) (.t 11), none⟩,
  ⟨some 3, .mv (.t 13), none⟩]
def a11 : AFn := ⟨[false], .seq (.reg a11_r0 false []) (.seq (.reg a11_r1 false []) (.seq (.reg a11_r2 false []) (.seq (.reg a11_r3 true [(0, 2)]) (.ret)))), [.cell 2 5 true, .t 3], []⟩
theorem reads11 : readFn Try.prog Try.f11 [false] [] [] = some a11 := by kernel_rfl
-- impl.TreeDepth
def a13_r0 : List AOper := [⟨some 1, .box (.t 0), none⟩,
  ⟨some 2, .mv (.c (.i .i64 0)), none⟩]
def a13_r1 : List AOper := [⟨some 3, .ld 5 true (.t 1), none⟩,
  ⟨some 4, .call (.c (.clo 64 [])) [.t 3, .c (.i .i64 0), .c (.i .i64 1000), .c (.i .i64 7)], none⟩,
  ⟨some 2, .mv (.t 4), none⟩]
def a13 : AFn := ⟨[false], .seq (.reg a13_r0 false []) (.seq (.reg a13_r1 false []) (.ret)), [.t 2], []⟩
theorem reads13 : readFn Try.prog Try.f13 [false] [] [] = some a13 := by kernel_rfl
-- spec.TreeDepth
def a17_r0 : List AOper := [⟨some 1, .box (.t 0), none⟩,
  ⟨some 2, .mv (.c (.i .i64 0)), none⟩]
def a17_r1 : List AOper := [⟨some 3, .ld 5 true (.t 1), none⟩,
  ⟨some 4, .call (.c (.clo 68 [])) [.t 3, .c (.i .i64 0), .c (.i .i64 1000), .c (.i .i64 7)], none⟩,
  ⟨some 2, .mv (.t 4), none⟩]
def a17 : AFn := ⟨[false], .seq (.reg a17_r0 false []) (.seq (.reg a17_r1 false []) (.ret)), [.t 2], []⟩
theorem reads17 : readFn Try.prog Try.f17 [false] [] [] = some a17 := by kernel_rfl
-- spec.TreeOk
def a18_r0 : List AOper := [⟨some 1, .box (.t 0), none⟩,
  ⟨some 2, .mv (.c (.b false)), none⟩]
def a18_r1 : List AOper := [⟨some 3, .ld 5 true (.t 1), none⟩,
  ⟨some 4, .call (.c (.clo 17 [])) [.t 3], none⟩,
  ⟨some 5, .bin .gtr (.t 4) (.c (.i .i64 0)), none⟩,
  ⟨some 2, .mv (.t 5), none⟩]
def a18 : AFn := ⟨[false], .seq (.reg a18_r0 false []) (.seq (.reg a18_r1 false []) (.ret)), [.t 2], []⟩
theorem reads18 : readFn Try.prog Try.f18 [false] [] [] = some a18 := by kernel_rfl
-- spec.DrawTreeGet
def a19_r0 : List AOper := [⟨some 2, .new [.b false, .emp, .emp, .emp, .emp], none⟩,
  ⟨some 3, .mv (.c (.i .i64 0)), none⟩]
def a19_r1 : List AOper := [⟨some 7, .mv (.t 0), none⟩,
  ⟨some 8, .call (.c (.clo 11 [])) [.t 7], none⟩,
  ⟨some 6, .mv (.t 8), none⟩,
  ⟨some 9, .ex (.t 6) 0, none⟩,
  ⟨some 10, .ex (.t 6) 1, none⟩,
  ⟨some 4, .new [.b false, .emp, .emp, .emp, .emp], none⟩,
  ⟨none, .st 5 (.t 4) (.t 9), none⟩,
  ⟨some 5, .mv (.t 10), none⟩]
def a19_r2 : List AOper := [⟨some 11, .ld 5 true (.t 4), none⟩,
  ⟨some 12, .mv (.t 5), none⟩,
  ⟨none, .st 5 (.t 2) (.t 11), none⟩,
  ⟨some 3, .mv (.t 12), none⟩]
def a19 : AFn := ⟨[false], .seq (.reg a19_r0 false []) (.seq (.reg a19_r1 false []) (.seq (.reg a19_r2 false []) (.ret))), [.cell 2 5 true, .t 3], []⟩
theorem reads19 : readFn Try.prog Try.f19 [false] [] [] = some a19 := by kernel_rfl
-- impl.TreeGet
def a20_r0 : List AOper := [⟨some 2, .box (.t 0), none⟩,
  ⟨some 4, .mv (.c (.i .i64 0)), none⟩,
  ⟨some 5, .mv (.c (.b false)), none⟩]
def a20_r1 : List AOper := [⟨some 9, .ld 5 true (.t 2), none⟩,
  ⟨some 10, .call (.c (.clo 62 [])) [.t 9], none⟩,
  ⟨some 11, .un .not (.t 10), none⟩]
def a20_r2 : List AOper := [⟨some 4, .mv (.c (.i .i64 0)), none⟩,
  ⟨some 5, .mv (.c (.b false)), none⟩]
def a20_r3 : List AOper := [⟨some 12, .rowOf 2 [.i .i64 0, .i .i64 0] 0 [], none⟩,
  ⟨some 6, .mv (.t 12), none⟩]
def a20_r4 : List AOper := [⟨some 14, .ld 5 true (.t 2), none⟩,
  ⟨some 15, .mv (.t 1), none⟩,
  ⟨some 16, .call (.c (.clo 69 [])) [.t 14, .t 15], none⟩,
  ⟨some 17, .fd 1 1 false (.t 16), none⟩,
  ⟨some 18, .mv (.t 1), none⟩,
  ⟨some 19, .call (.c (.clo 25 [])) [.t 17, .t 18], none⟩,
  ⟨some 13, .mv (.t 19), none⟩,
  ⟨some 20, .ex (.t 13) 0, none⟩,
  ⟨some 21, .ex (.t 13) 1, none⟩,
  ⟨some 7, .mv (.t 20), none⟩,
  ⟨some 8, .mv (.t 21), none⟩]
def a20_r5 : List AOper := [⟨some 22, .mv (.t 8), none⟩]
def a20_r6 : List AOper := [⟨some 23, .mv (.t 6), none⟩,
  ⟨some 24, .mv (.t 1), none⟩,
  ⟨some 25, .mv (.t 7), none⟩,
  ⟨some 26, .build [.i .i64 0, .i .i64 0] [(0, 1, .t 24), (1, 1, .t 25)], none⟩,
  ⟨some 27, .rowOf 2 [.i .i64 0, .i .i64 0] 1 [(0, .t 26)], none⟩,
  ⟨some 28, .ap 2 16 (.t 23) (.t 27), none⟩,
  ⟨some 6, .mv (.t 28), none⟩]
def a20_r7 : List AOper := [⟨some 29, .mv (.t 6), none⟩,
  ⟨some 30, .ld 5 true (.t 2), none⟩,
  ⟨some 31, .mv (.t 1), none⟩,
  ⟨some 32, .call (.c (.clo 71 [])) [.t 30, .t 31], none⟩,
  ⟨some 33, .call (.c (.clo 70 [])) [.t 29, .t 32], none⟩,
  ⟨some 34, .mv (.t 1), none⟩,
  ⟨some 35, .call (.c (.clo 25 [])) [.t 33, .t 34], none⟩,
  ⟨some 36, .ex (.t 35) 0, none⟩,
  ⟨some 37, .ex (.t 35) 1, none⟩,
  ⟨some 4, .mv (.t 36), none⟩,
  ⟨some 5, .mv (.t 37), none⟩]
def a20 : AFn := ⟨[false, false], .seq (.reg a20_r0 false []) (.seq (.seq (.reg a20_r1 false []) (.cond (.t 11) (.seq (.reg a20_r2 false []) (.ret)) (.skip))) (.seq (.reg a20_r3 false []) (.seq (.seq (.reg a20_r4 false []) (.seq (.reg a20_r5 false []) (.cond (.t 22) (.reg a20_r6 false []) (.skip)))) (.seq (.reg a20_r7 false []) (.ret))))), [.t 4, .t 5], []⟩
theorem reads20 : readFn Try.prog Try.f20 [false, false] [] [] = some a20 := by kernel_rfl
-- spec.TreeGet
def a21_r0 : List AOper := [⟨some 2, .box (.t 0), none⟩,
  ⟨some 4, .mv (.c (.i .i64 0)), none⟩,
  ⟨some 5, .mv (.c (.b false)), none⟩]
def a21_r1 : List AOper := [⟨some 10, .ld 5 true (.t 2), none⟩,
  ⟨some 11, .call (.c (.clo 18 [])) [.t 10], none⟩,
  ⟨some 12, .un .not (.t 11), none⟩]
def a21_r2 : List AOper := [⟨some 4, .mv (.c (.i .i64 0)), none⟩,
  ⟨some 5, .mv (.c (.b false)), none⟩]
def a21_r3 : List AOper := [⟨some 13, .ld 5 true (.t 2), none⟩,
  ⟨some 6, .new [.b false, .emp, .emp, .emp, .emp], none⟩,
  ⟨none, .st 5 (.t 6) (.t 13), none⟩]
def a21_r4 : List AOper := [⟨some 14, .fa 0 (.t 6), none⟩,
  ⟨some 15, .ld 1 false (.t 14), none⟩,
  ⟨some 16, .un .not (.t 15), none⟩]
def a21_r5 : List AOper := [⟨some 17, .fa 3 (.t 6), none⟩,
  ⟨some 18, .ld 1 false (.t 17), none⟩,
  ⟨some 19, .ld 5 true (.t 6), none⟩,
  ⟨some 20, .mv (.t 1), none⟩,
  ⟨some 21, .call (.c (.clo 67 [])) [.t 19, .t 20], none⟩,
  ⟨some 22, .ia 5 (.t 18) (.t 21), none⟩,
  ⟨some 23, .ld 5 true (.t 22), none⟩,
  ⟨none, .st 5 (.t 6) (.t 23), none⟩]
def a21_l1 : ACode := .seq (.seq (.reg a21_r4 false []) (.cond (.t 16) (.skip) (.exit 0))) (.block 1 (.reg a21_r5 true [(1, 4)]))
def a21_r6 : List AOper := [⟨some 24, .rowOf 2 [.i .i64 0, .i .i64 0] 0 [], none⟩,
  ⟨some 7, .mv (.t 24), none⟩]
def a21_r7 : List AOper := [⟨some 26, .fa 1 (.t 6), none⟩,
  ⟨some 27, .ld 1 false (.t 26), none⟩,
  ⟨some 28, .mv (.t 1), none⟩,
  ⟨some 29, .call (.c (.clo 72 [])) [.t 27, .t 28], none⟩,
  ⟨some 25, .mv (.t 29), none⟩,
  ⟨some 30, .ex (.t 25) 0, none⟩,
  ⟨some 31, .ex (.t 25) 1, none⟩,
  ⟨some 8, .mv (.t 30), none⟩,
  ⟨some 9, .mv (.t 31), none⟩]
def a21_r8 : List AOper := [⟨some 32, .mv (.t 9), none⟩]
def a21_r9 : List AOper := [⟨some 33, .mv (.t 7), none⟩,
  ⟨some 34, .mv (.t 1), none⟩,
  ⟨some 35, .mv (.t 8), none⟩,
  ⟨some 36, .build [.i .i64 0, .i .i64 0] [(0, 1, .t 34), (1, 1, .t 35)], none⟩,
  ⟨some 37, .rowOf 2 [.i .i64 0, .i .i64 0] 1 [(0, .t 36)], none⟩,
  ⟨some 38, .ap 2 16 (.t 33) (.t 37), none⟩,
  ⟨some 7, .mv (.t 38), none⟩]
def a21_r10 : List AOper := [⟨some 40, .mv (.t 7), none⟩,
  ⟨some 41, .ld 5 true (.t 2), none⟩,
  ⟨some 42, .mv (.t 1), none⟩,
  ⟨some 43, .call (.c (.clo 74 [])) [.t 41, .t 42], none⟩,
  ⟨some 44, .call (.c (.clo 73 [])) [.t 40, .t 43], none⟩,
  ⟨some 45, .mv (.t 1), none⟩,
  ⟨some 46, .call (.c (.clo 72 [])) [.t 44, .t 45], none⟩,
  ⟨some 39, .mv (.t 46), none⟩,
  ⟨some 47, .ex (.t 39) 0, none⟩,
  ⟨some 48, .ex (.t 39) 1, none⟩,
  ⟨some 8, .mv (.t 47), none⟩,
  ⟨some 9, .mv (.t 48), none⟩]
def a21_r11 : List AOper := [⟨some 49, .mv (.t 8), none⟩,
  ⟨some 50, .mv (.t 9), none⟩,
  ⟨some 4, .mv (.t 49), none⟩,
  ⟨some 5, .mv (.t 50), none⟩]
def a21 : AFn := ⟨[false, false], .seq (.reg a21_r0 false []) (.seq (.seq (.reg a21_r1 false []) (.cond (.t 12) (.seq (.reg a21_r2 false []) (.ret)) (.skip))) (.seq (.reg a21_r3 false []) (.seq (.block 0 (.loop [] a21_l1)) (.seq (.reg a21_r6 false []) (.seq (.reg a21_r7 false []) (.seq (.seq (.reg a21_r8 false []) (.cond (.t 32) (.reg a21_r9 false []) (.skip))) (.seq (.reg a21_r10 false []) (.seq (.reg a21_r11 false []) (.ret))))))))), [.t 4, .t 5], []⟩
theorem reads21 : readFn Try.prog Try.f21 [false, false] [] [[]] = some a21 := by kernel_rfl
-- impl.Pending
def a22_r0 : List AOper := [⟨some 2, .box (.t 0), none⟩,
  ⟨some 4, .mv (.c (.emp)), none⟩]
def a22_r1 : List AOper := [⟨some 5, .ld 5 true (.t 2), none⟩,
  ⟨some 6, .call (.c (.clo 62 [])) [.t 5], none⟩,
  ⟨some 7, .un .not (.t 6), none⟩]
def a22_r2 : List AOper := [⟨some 4, .mv (.c (.emp)), none⟩]
def a22_r3 : List AOper := [⟨some 8, .ld 5 true (.t 2), none⟩,
  ⟨some 9, .mv (.t 1), none⟩,
  ⟨some 10, .call (.c (.clo 71 [])) [.t 8, .t 9], none⟩,
  ⟨some 4, .mv (.t 10), none⟩]
def a22 : AFn := ⟨[false, false], .seq (.reg a22_r0 false []) (.seq (.seq (.reg a22_r1 false []) (.cond (.t 7) (.seq (.reg a22_r2 false []) (.ret)) (.skip))) (.seq (.reg a22_r3 false []) (.ret))), [.t 4], []⟩
theorem reads22 : readFn Try.prog Try.f22 [false, false] [] [] = some a22 := by kernel_rfl
-- laws.sameMsgs
def a23_r0 : List AOper := [⟨some 4, .mv (.c (.b false)), none⟩]
def a23_r1 : List AOper := [⟨some 6, .mv (.t 0), none⟩,
  ⟨some 7, .len false (.t 6), none⟩,
  ⟨some 8, .mv (.t 1), none⟩,
  ⟨some 9, .len false (.t 8), none⟩,
  ⟨some 10, .bin .neq (.t 7) (.t 9), none⟩]
def a23_r2 : List AOper := [⟨some 4, .mv (.c (.b false)), none⟩]
def a23_r3 : List AOper := [⟨some 5, .mv (.c (.i .i64 0)), none⟩]
def a23_r4 : List AOper := [⟨some 11, .mv (.t 5), none⟩,
  ⟨some 12, .mv (.t 0), none⟩,
  ⟨some 13, .len false (.t 12), none⟩,
  ⟨some 14, .bin .lss (.t 11) (.t 13), none⟩]
def a23_r6 : List AOper := [⟨some 17, .mv (.t 0), none⟩,
  ⟨some 18, .mv (.t 5), none⟩,
  ⟨some 19, .ia 3 (.t 17) (.t 18), none⟩,
  ⟨some 20, .ld 3 true (.t 19), none⟩,
  ⟨some 21, .mv (.t 1), none⟩,
  ⟨some 22, .mv (.t 5), none⟩,
  ⟨some 23, .ia 3 (.t 21) (.t 22), none⟩,
  ⟨some 24, .ld 3 true (.t 23), none⟩,
  ⟨some 25, .eqa true [(0, false), (1, false), (2, false)] (.t 20) (.t 24), none⟩]
def a23_r7 : List AOper := [⟨some 4, .mv (.c (.b false)), none⟩]
def a23_r5 : List AOper := [⟨some 15, .mv (.t 5), none⟩,
  ⟨some 16, .bin .add (.t 15) (.c (.i .i64 1)), none⟩,
  ⟨some 5, .mv (.t 16), none⟩]
def a23_l1 : ACode := .seq (.seq (.reg a23_r4 false []) (.cond (.t 14) (.skip) (.exit 0))) (.seq (.block 1 (.seq (.reg a23_r6 true []) (.cond (.t 25) (.seq (.reg a23_r7 false []) (.ret)) (.skip)))) (.reg a23_r5 false []))
def a23_r8 : List AOper := [⟨some 4, .mv (.c (.b true)), none⟩]
def a23 : AFn := ⟨[false, false], .seq (.reg a23_r0 false []) (.seq (.seq (.reg a23_r1 false []) (.cond (.t 10) (.seq (.reg a23_r2 false []) (.ret)) (.skip))) (.seq (.seq (.reg a23_r3 false []) (.block 0 (.loop [] a23_l1))) (.seq (.reg a23_r8 false []) (.ret)))), [.t 4], []⟩
theorem reads23 : readFn Try.prog Try.f23 [false, false] [] [[]] = some a23 := by kernel_rfl
-- spec.Pending
def a24_r0 : List AOper := [⟨some 2, .box (.t 0), none⟩,
  ⟨some 4, .mv (.c (.emp)), none⟩]
def a24_r1 : List AOper := [⟨some 5, .ld 5 true (.t 2), none⟩,
  ⟨some 6, .call (.c (.clo 18 [])) [.t 5], none⟩,
  ⟨some 7, .un .not (.t 6), none⟩]
def a24_r2 : List AOper := [⟨some 8, .rowOf 3 [.i .i64 0, .i .i64 0, .i .i64 0] 0 [], none⟩,
  ⟨some 4, .mv (.t 8), none⟩]
def a24_r3 : List AOper := [⟨some 9, .ld 5 true (.t 2), none⟩,
  ⟨some 10, .mv (.t 1), none⟩,
  ⟨some 11, .call (.c (.clo 74 [])) [.t 9, .t 10], none⟩,
  ⟨some 4, .mv (.t 11), none⟩]
def a24 : AFn := ⟨[false, false], .seq (.reg a24_r0 false []) (.seq (.seq (.reg a24_r1 false []) (.cond (.t 7) (.seq (.reg a24_r2 false []) (.ret)) (.skip))) (.seq (.reg a24_r3 false []) (.ret))), [.t 4], []⟩
theorem reads24 : readFn Try.prog Try.f24 [false, false] [] [] = some a24 := by kernel_rfl
-- impl.MapGet
def a25_r0 : List AOper := [⟨some 4, .mv (.c (.i .i64 0)), none⟩,
  ⟨some 5, .mv (.c (.b false)), none⟩]
def a25_r1 : List AOper := [⟨some 7, .mv (.t 0), none⟩,
  ⟨some 8, .mv (.t 1), none⟩,
  ⟨some 9, .call (.c (.clo 75 [])) [.t 7, .t 8], none⟩,
  ⟨some 6, .mv (.t 9), none⟩]
def a25_r2 : List AOper := [⟨some 10, .mv (.t 6), none⟩,
  ⟨some 11, .bin .lss (.t 10) (.c (.i .i64 0)), none⟩]
def a25_r3 : List AOper := [⟨some 4, .mv (.c (.i .i64 0)), none⟩,
  ⟨some 5, .mv (.c (.b false)), none⟩]
def a25_r4 : List AOper := [⟨some 12, .mv (.t 0), none⟩,
  ⟨some 13, .mv (.t 6), none⟩,
  ⟨some 14, .ia 2 (.t 12) (.t 13), none⟩,
  ⟨some 15, .fa 1 (.t 14), none⟩,
  ⟨some 16, .ld 1 false (.t 15), none⟩,
  ⟨some 4, .mv (.t 16), none⟩,
  ⟨some 5, .mv (.c (.b true)), none⟩]
def a25 : AFn := ⟨[false, false], .seq (.reg a25_r0 false []) (.seq (.reg a25_r1 false []) (.seq (.seq (.reg a25_r2 false []) (.cond (.t 11) (.seq (.reg a25_r3 false []) (.ret)) (.skip))) (.seq (.reg a25_r4 false []) (.ret)))), [.t 4, .t 5], []⟩
theorem reads25 : readFn Try.prog Try.f25 [false, false] [] [] = some a25 := by kernel_rfl
-- impl.TreeMap
def a26_r0 : List AOper := [⟨some 1, .box (.t 0), none⟩,
  ⟨some 2, .mv (.c (.emp)), none⟩]
def a26_r1 : List AOper := [⟨some 3, .ld 5 true (.t 1), none⟩,
  ⟨some 4, .call (.c (.clo 62 [])) [.t 3], none⟩,
  ⟨some 5, .un .not (.t 4), none⟩]
def a26_r2 : List AOper := [⟨some 2, .mv (.c (.emp)), none⟩]
def a26_r3 : List AOper := [⟨some 6, .ld 5 true (.t 1), none⟩,
  ⟨some 7, .call (.c (.clo 76 [])) [.t 6], none⟩,
  ⟨some 2, .mv (.t 7), none⟩]
def a26 : AFn := ⟨[false], .seq (.reg a26_r0 false []) (.seq (.seq (.reg a26_r1 false []) (.cond (.t 5) (.seq (.reg a26_r2 false []) (.ret)) (.skip))) (.seq (.reg a26_r3 false []) (.ret))), [.t 2], []⟩
theorem reads26 : readFn Try.prog Try.f26 [false] [] [] = some a26 := by kernel_rfl
-- spec.DrawTreeRange
def a27_r0 : List AOper := [⟨some 2, .new [.b false, .emp, .emp, .emp, .emp], none⟩,
  ⟨some 3, .mv (.c (.i .i64 0)), none⟩,
  ⟨some 4, .mv (.c (.i .i64 0)), none⟩]
def a27_r1 : List AOper := [⟨some 8, .mv (.t 0), none⟩,
  ⟨some 9, .call (.c (.clo 59 [])) [.t 8], none⟩,
  ⟨some 5, .mv (.t 9), none⟩]
def a27_r2 : List AOper := [⟨some 10, .mv (.t 5), none⟩,
  ⟨some 11, .mv (.t 0), none⟩,
  ⟨some 12, .call (.c (.clo 60 [])) [.t 10, .t 11], none⟩,
  ⟨some 6, .new [.b false, .emp, .emp, .emp, .emp], none⟩,
  ⟨none, .st 5 (.t 6) (.t 12), none⟩]
def a27_r3 : List AOper := [⟨some 13, .mv (.t 5), none⟩,
  ⟨some 14, .call (.c (.clo 61 [])) [.t 13], none⟩,
  ⟨some 15, .bin .sub (.t 14) (.c (.i .i64 1)), none⟩,
  ⟨some 7, .mv (.t 15), none⟩]
def a27_r4 : List AOper := [⟨some 16, .ld 5 true (.t 6), none⟩,
  ⟨some 17, .mv (.t 7), none⟩,
  ⟨some 18, .mv (.t 7), none⟩,
  ⟨some 19, .mv (.t 5), none⟩,
  ⟨some 20, .call (.c (.clo 77 [])) [.t 19, .c (.i .i64 25)], none⟩,
  ⟨some 21, .bin .add (.t 18) (.t 20), none⟩,
  ⟨none, .st 5 (.t 2) (.t 16), none⟩,
  ⟨some 3, .mv (.t 17), none⟩,
  ⟨some 4, .mv (.t 21), none⟩]
def a27 : AFn := ⟨[false], .seq (.reg a27_r0 false []) (.seq (.reg a27_r1 false []) (.seq (.reg a27_r2 false []) (.seq (.reg a27_r3 false []) (.seq (.reg a27_r4 true [(0, 4)]) (.ret))))), [.cell 2 5 true, .t 3, .t 4], []⟩
theorem reads27 : readFn Try.prog Try.f27 [false] [] [] = some a27 := by kernel_rfl
-- impl.TreeRange
def a28_r0 : List AOper := [⟨some 3, .box (.t 0), none⟩,
  ⟨some 6, .mv (.c (.emp)), none⟩]
def a28_r1 : List AOper := [⟨some 10, .rowOf 2 [.i .i64 0, .i .i64 0] 0 [], none⟩,
  ⟨some 7, .mv (.t 10), none⟩]
def a28_r2 : List AOper := [⟨some 11, .ld 5 true (.t 3), none⟩,
  ⟨some 12, .call (.c (.clo 26 [])) [.t 11], none⟩,
  ⟨some 13, .len false (.t 12), none⟩,
  ⟨some 14, .mv (.c (.i .i64 0)), none⟩]
def a28_r3 : List AOper := [⟨some 15, .bin .lss (.t 14) (.t 13), none⟩]
def a28_r4 : List AOper := [⟨some 16, .ia 2 (.t 12) (.t 14), none⟩,
  ⟨some 17, .ld 2 true (.t 16), none⟩,
  ⟨some 9, .new [.i .i64 0, .i .i64 0], none⟩,
  ⟨none, .st 2 (.t 9) (.t 17), none⟩]
def a28_r5 : List AOper := [⟨some 18, .fa 0 (.t 9), none⟩,
  ⟨some 19, .ld 1 false (.t 18), none⟩,
  ⟨some 20, .mv (.t 1), none⟩,
  ⟨some 21, .bin .geq (.t 19) (.t 20), none⟩,
  ⟨some 22, .mv (.t 21), none⟩,
  ⟨some 23, .fa 0 (.t 9), some (22, true)⟩,
  ⟨some 24, .ld 1 false (.t 23), some (22, true)⟩,
  ⟨some 25, .mv (.t 2), some (22, true)⟩,
  ⟨some 26, .bin .lss (.t 24) (.t 25), some (22, true)⟩,
  ⟨some 27, .pick (.t 22) (.t 26) (.c (.b false)), none⟩]
def a28_r6 : List AOper := [⟨some 28, .mv (.t 7), none⟩,
  ⟨some 29, .ld 2 true (.t 9), none⟩,
  ⟨some 30, .rowOf 2 [.i .i64 0, .i .i64 0] 1 [(0, .t 29)], none⟩,
  ⟨some 31, .ap 2 16 (.t 28) (.t 30), none⟩,
  ⟨some 7, .mv (.t 31), none⟩]
def a28_r7 : List AOper := [⟨some 32, .bin .add (.t 14) (.c (.i .i64 1)), none⟩,
  ⟨some 14, .mv (.t 32), none⟩]
def a28_l1 : ACode := .seq (.reg a28_r3 false []) (.seq (.cond (.t 15) (.skip) (.exit 0)) (.seq (.block 1 (.seq (.reg a28_r4 false []) (.seq (.reg a28_r5 false []) (.cond (.t 27) (.reg a28_r6 false []) (.skip))))) (.reg a28_r7 false [])))
def a28_r8 : List AOper := [⟨some 33, .mv (.t 7), none⟩,
  ⟨some 6, .mv (.t 33), none⟩]
def a28 : AFn := ⟨[false, false, false], .seq (.reg a28_r0 false []) (.seq (.reg a28_r1 false []) (.seq (.seq (.reg a28_r2 false []) (.block 0 (.loop [] a28_l1))) (.seq (.reg a28_r8 false []) (.ret)))), [.t 6], []⟩
theorem reads28 : readFn Try.prog Try.f28 [false, false, false] [] [[]] = some a28 := by kernel_rfl
-- laws.samePairs
def a29_r0 : List AOper := [⟨some 4, .mv (.c (.b false)), none⟩]
def a29_r1 : List AOper := [⟨some 6, .mv (.t 0), none⟩,
  ⟨some 7, .len false (.t 6), none⟩,
  ⟨some 8, .mv (.t 1), none⟩,
  ⟨some 9, .len false (.t 8), none⟩,
  ⟨some 10, .bin .neq (.t 7) (.t 9), none⟩]
def a29_r2 : List AOper := [⟨some 4, .mv (.c (.b false)), none⟩]
def a29_r3 : List AOper := [⟨some 5, .mv (.c (.i .i64 0)), none⟩]
def a29_r4 : List AOper := [⟨some 11, .mv (.t 5), none⟩,
  ⟨some 12, .mv (.t 0), none⟩,
  ⟨some 13, .len false (.t 12), none⟩,
  ⟨some 14, .bin .lss (.t 11) (.t 13), none⟩]
def a29_r6 : List AOper := [⟨some 17, .mv (.t 0), none⟩,
  ⟨some 18, .mv (.t 5), none⟩,
  ⟨some 19, .ia 2 (.t 17) (.t 18), none⟩,
  ⟨some 20, .ld 2 true (.t 19), none⟩,
  ⟨some 21, .mv (.t 1), none⟩,
  ⟨some 22, .mv (.t 5), none⟩,
  ⟨some 23, .ia 2 (.t 21) (.t 22), none⟩,
  ⟨some 24, .ld 2 true (.t 23), none⟩,
  ⟨some 25, .eqa true [(0, false), (1, false)] (.t 20) (.t 24), none⟩]
def a29_r7 : List AOper := [⟨some 4, .mv (.c (.b false)), none⟩]
def a29_r5 : List AOper := [⟨some 15, .mv (.t 5), none⟩,
  ⟨some 16, .bin .add (.t 15) (.c (.i .i64 1)), none⟩,
  ⟨some 5, .mv (.t 16), none⟩]
def a29_l1 : ACode := .seq (.seq (.reg a29_r4 false []) (.cond (.t 14) (.skip) (.exit 0))) (.seq (.block 1 (.seq (.reg a29_r6 true []) (.cond (.t 25) (.seq (.reg a29_r7 false []) (.ret)) (.skip)))) (.reg a29_r5 false []))
def a29_r8 : List AOper := [⟨some 4, .mv (.c (.b true)), none⟩]
def a29 : AFn := ⟨[false, false], .seq (.reg a29_r0 false []) (.seq (.seq (.reg a29_r1 false []) (.cond (.t 10) (.seq (.reg a29_r2 false []) (.ret)) (.skip))) (.seq (.seq (.reg a29_r3 false []) (.block 0 (.loop [] a29_l1))) (.seq (.reg a29_r8 false []) (.ret)))), [.t 4], []⟩
theorem reads29 : readFn Try.prog Try.f29 [false, false] [] [[]] = some a29 := by kernel_rfl
-- spec.TreeRange
def a30_r0 : List AOper := [⟨some 3, .box (.t 0), none⟩,
  ⟨some 6, .mv (.c (.emp)), none⟩]
def a30_r1 : List AOper := [⟨some 10, .rowOf 2 [.i .i64 0, .i .i64 0] 0 [], none⟩,
  ⟨some 7, .mv (.t 10), none⟩]
def a30_r2 : List AOper := [⟨some 11, .ld 5 true (.t 3), none⟩,
  ⟨some 12, .call (.c (.clo 31 [])) [.t 11], none⟩,
  ⟨some 8, .mv (.t 12), none⟩]
def a30_r3 : List AOper := [⟨some 9, .mv (.c (.i .i64 0)), none⟩]
def a30_r4 : List AOper := [⟨some 13, .mv (.t 9), none⟩,
  ⟨some 14, .mv (.t 8), none⟩,
  ⟨some 15, .len false (.t 14), none⟩,
  ⟨some 16, .bin .lss (.t 13) (.t 15), none⟩]
def a30_r6 : List AOper := [⟨some 19, .mv (.t 8), none⟩,
  ⟨some 20, .mv (.t 9), none⟩,
  ⟨some 21, .ia 2 (.t 19) (.t 20), none⟩,
  ⟨some 22, .fa 0 (.t 21), none⟩,
  ⟨some 23, .ld 1 false (.t 22), none⟩,
  ⟨some 24, .mv (.t 1), none⟩,
  ⟨some 25, .bin .geq (.t 23) (.t 24), none⟩,
  ⟨some 26, .mv (.t 25), none⟩,
  ⟨some 27, .mv (.t 8), some (26, true)⟩,
  ⟨some 28, .mv (.t 9), some (26, true)⟩,
  ⟨some 29, .ia 2 (.t 27) (.t 28), some (26, true)⟩,
  ⟨some 30, .fa 0 (.t 29), some (26, true)⟩,
  ⟨some 31, .ld 1 false (.t 30), some (26, true)⟩,
  ⟨some 32, .mv (.t 2), some (26, true)⟩,
  ⟨some 33, .bin .lss (.t 31) (.t 32), some (26, true)⟩,
  ⟨some 34, .pick (.t 26) (.t 33) (.c (.b false)), none⟩]
def a30_r7 : List AOper := [⟨some 35, .mv (.t 7), none⟩,
  ⟨some 36, .mv (.t 8), none⟩,
  ⟨some 37, .mv (.t 9), none⟩,
  ⟨some 38, .ia 2 (.t 36) (.t 37), none⟩,
  ⟨some 39, .ld 2 true (.t 38), none⟩,
  ⟨some 40, .rowOf 2 [.i .i64 0, .i .i64 0] 1 [(0, .t 39)], none⟩,
  ⟨some 41, .ap 2 16 (.t 35) (.t 40), none⟩,
  ⟨some 7, .mv (.t 41), none⟩]
def a30_r5 : List AOper := [⟨some 17, .mv (.t 9), none⟩,
  ⟨some 18, .bin .add (.t 17) (.c (.i .i64 1)), none⟩,
  ⟨some 9, .mv (.t 18), none⟩]
def a30_l1 : ACode := .seq (.seq (.reg a30_r4 false []) (.cond (.t 16) (.skip) (.exit 0))) (.seq (.block 1 (.seq (.reg a30_r6 false []) (.cond (.t 34) (.reg a30_r7 false []) (.skip)))) (.reg a30_r5 false []))
def a30_r8 : List AOper := [⟨some 42, .mv (.t 7), none⟩,
  ⟨some 6, .mv (.t 42), none⟩]
def a30 : AFn := ⟨[false, false, false], .seq (.reg a30_r0 false []) (.seq (.reg a30_r1 false []) (.seq (.reg a30_r2 false []) (.seq (.seq (.reg a30_r3 false []) (.block 0 (.loop [] a30_l1))) (.seq (.reg a30_r8 false []) (.ret))))), [.t 6], []⟩
theorem reads30 : readFn Try.prog Try.f30 [false, false, false] [] [[]] = some a30 := by kernel_rfl
-- spec.TreeMap
def a31_r0 : List AOper := [⟨some 1, .box (.t 0), none⟩,
  ⟨some 2, .mv (.c (.emp)), none⟩]
def a31_r1 : List AOper := [⟨some 3, .ld 5 true (.t 1), none⟩,
  ⟨some 4, .call (.c (.clo 18 [])) [.t 3], none⟩,
  ⟨some 5, .un .not (.t 4), none⟩]
def a31_r2 : List AOper := [⟨some 6, .rowOf 2 [.i .i64 0, .i .i64 0] 0 [], none⟩,
  ⟨some 2, .mv (.t 6), none⟩]
def a31_r3 : List AOper := [⟨some 7, .ld 5 true (.t 1), none⟩,
  ⟨some 8, .call (.c (.clo 78 [])) [.t 7], none⟩,
  ⟨some 2, .mv (.t 8), none⟩]
def a31 : AFn := ⟨[false], .seq (.reg a31_r0 false []) (.seq (.seq (.reg a31_r1 false []) (.cond (.t 5) (.seq (.reg a31_r2 false []) (.ret)) (.skip))) (.seq (.reg a31_r3 false []) (.ret))), [.t 2], []⟩
theorem reads31 : readFn Try.prog Try.f31 [false] [] [] = some a31 := by kernel_rfl
-- laws.at
def a32_r0 : List AOper := [⟨some 4, .mv (.c (.i .i64 0)), none⟩]
def a32_r1 : List AOper := [⟨some 5, .mv (.t 1), none⟩,
  ⟨some 6, .mv (.t 0), none⟩,
  ⟨some 7, .len false (.t 6), none⟩,
  ⟨some 8, .bin .lss (.t 5) (.t 7), none⟩]
def a32_r2 : List AOper := [⟨some 9, .mv (.t 0), none⟩,
  ⟨some 10, .mv (.t 1), none⟩,
  ⟨some 11, .ia 1 (.t 9) (.t 10), none⟩,
  ⟨some 12, .ld 1 false (.t 11), none⟩,
  ⟨some 13, .cvI .i64 (.t 12), none⟩,
  ⟨some 4, .mv (.t 13), none⟩]
def a32_r3 : List AOper := [⟨some 14, .mv (.t 1), none⟩,
  ⟨some 15, .bin .mul (.t 14) (.c (.i .i64 7)), none⟩,
  ⟨some 16, .mv (.t 0), none⟩,
  ⟨some 17, .len false (.t 16), none⟩,
  ⟨some 18, .bin .add (.t 15) (.t 17), none⟩,
  ⟨some 19, .bin .rem (.t 18) (.c (.i .i64 256)), none⟩,
  ⟨some 4, .mv (.t 19), none⟩]
def a32 : AFn := ⟨[false, false], .seq (.reg a32_r0 false []) (.seq (.seq (.reg a32_r1 false []) (.cond (.t 8) (.seq (.reg a32_r2 false []) (.ret)) (.skip))) (.seq (.reg a32_r3 false []) (.ret))), [.t 4], []⟩
theorem reads32 : readFn Try.prog Try.f32 [false, false] [] [] = some a32 := by kernel_rfl
-- impl.MapOk
def a33_r0 : List AOper := [⟨some 2, .mv (.c (.b false)), none⟩]
def a33_r1 : List AOper := [⟨some 5, .mv (.t 0), none⟩,
  ⟨some 6, .len false (.t 5), none⟩,
  ⟨some 7, .mv (.c (.i .i64 0)), none⟩]
def a33_r2 : List AOper := [⟨some 8, .bin .lss (.t 7) (.t 6), none⟩]
def a33_r3 : List AOper := [⟨some 9, .mv (.t 7), none⟩,
  ⟨some 10, .ia 2 (.t 5) (.t 7), none⟩,
  ⟨some 11, .ld 2 true (.t 10), none⟩,
  ⟨some 4, .new [.i .i64 0, .i .i64 0], none⟩,
  ⟨some 3, .mv (.t 9), none⟩,
  ⟨none, .st 2 (.t 4) (.t 11), none⟩]
def a33_r4 : List AOper := [⟨some 12, .fa 0 (.t 4), none⟩,
  ⟨some 13, .ld 1 false (.t 12), none⟩,
  ⟨some 14, .call (.c (.clo 79 [])) [.t 13], none⟩,
  ⟨some 15, .un .not (.t 14), none⟩,
  ⟨some 16, .mv (.t 15), none⟩,
  ⟨some 17, .fa 1 (.t 4), some (16, false)⟩,
  ⟨some 18, .ld 1 false (.t 17), some (16, false)⟩,
  ⟨some 19, .call (.c (.clo 80 [])) [.t 18], some (16, false)⟩,
  ⟨some 20, .un .not (.t 19), some (16, false)⟩,
  ⟨some 21, .pick (.t 16) (.c (.b true)) (.t 20), none⟩,
  ⟨some 22, .mv (.t 21), none⟩,
  ⟨some 23, .mv (.t 3), some (22, false)⟩,
  ⟨some 24, .bin .gtr (.t 23) (.c (.i .i64 0)), some (22, false)⟩,
  ⟨some 25, .mv (.t 24), some (22, false)⟩,
  ⟨some 26, .mv (.t 0), some (25, true)⟩,
  ⟨some 27, .mv (.t 3), some (25, true)⟩,
  ⟨some 28, .bin .sub (.t 27) (.c (.i .i64 1)), some (25, true)⟩,
  ⟨some 29, .ia 2 (.t 26) (.t 28), some (25, true)⟩,
  ⟨some 30, .fa 0 (.t 29), some (25, true)⟩,
  ⟨some 31, .ld 1 false (.t 30), some (25, true)⟩,
  ⟨some 32, .fa 0 (.t 4), some (25, true)⟩,
  ⟨some 33, .ld 1 false (.t 32), some (25, true)⟩,
  ⟨some 34, .bin .geq (.t 31) (.t 33), some (25, true)⟩,
  ⟨some 35, .pick (.t 25) (.t 34) (.c (.b false)), some (22, false)⟩,
  ⟨some 36, .pick (.t 22) (.c (.b true)) (.t 35), none⟩]
def a33_r5 : List AOper := [⟨some 2, .mv (.c (.b false)), none⟩]
def a33_r6 : List AOper := [⟨some 37, .bin .add (.t 7) (.c (.i .i64 1)), none⟩,
  ⟨some 7, .mv (.t 37), none⟩]
def a33_l1 : ACode := .seq (.reg a33_r2 false []) (.seq (.cond (.t 8) (.skip) (.exit 0)) (.seq (.block 1 (.seq (.reg a33_r3 false []) (.seq (.reg a33_r4 true []) (.cond (.t 36) (.seq (.reg a33_r5 false []) (.ret)) (.skip))))) (.reg a33_r6 false [])))
def a33_r7 : List AOper := [⟨some 2, .mv (.c (.b true)), none⟩]
def a33 : AFn := ⟨[false], .seq (.reg a33_r0 false []) (.seq (.seq (.reg a33_r1 false []) (.block 0 (.loop [] a33_l1))) (.seq (.reg a33_r7 false []) (.ret))), [.t 2], []⟩
theorem reads33 : readFn Try.prog Try.f33 [false] [] [[]] = some a33 := by kernel_rfl
-- spec.l1New
def a59_r0 : List AOper := [⟨some 2, .mv (.c (.junk)), none⟩]
def a59_r1 : List AOper := [⟨some 5, .mv (.t 0), none⟩,
  ⟨some 6, .len false (.t 5), none⟩,
  ⟨some 7, .bin .add (.c (.i .i64 18665)) (.t 6), none⟩,
  ⟨some 3, .mv (.t 7), none⟩]
def a59_r2 : List AOper := [⟨some 4, .mv (.c (.i .i64 0)), none⟩]
def a59_r3 : List AOper := [⟨some 8, .mv (.t 4), none⟩,
  ⟨some 9, .mv (.t 0), none⟩,
  ⟨some 10, .len false (.t 9), none⟩,
  ⟨some 11, .bin .lss (.t 8) (.t 10), none⟩,
  ⟨some 12, .mv (.t 11), none⟩,
  ⟨some 13, .mv (.t 4), some (12, true)⟩,
  ⟨some 14, .bin .lss (.t 13) (.c (.i .i64 4000)), some (12, true)⟩,
  ⟨some 15, .pick (.t 12) (.t 14) (.c (.b false)), none⟩]
def a59_r5 : List AOper := [⟨some 18, .mv (.t 3), none⟩,
  ⟨some 19, .bin .mul (.t 18) (.c (.i .i64 131)), none⟩,
  ⟨some 20, .mv (.t 0), none⟩,
  ⟨some 21, .mv (.t 4), none⟩,
  ⟨some 22, .ia 1 (.t 20) (.t 21), none⟩,
  ⟨some 23, .ld 1 false (.t 22), none⟩,
  ⟨some 24, .cvI .i64 (.t 23), none⟩,
  ⟨some 25, .bin .add (.t 19) (.t 24), none⟩,
  ⟨some 26, .bin .add (.t 25) (.c (.i .i64 7)), none⟩,
  ⟨some 27, .bin .and (.t 26) (.c (.i .i64 1073741823)), none⟩,
  ⟨some 3, .mv (.t 27), none⟩]
def a59_r4 : List AOper := [⟨some 16, .mv (.t 4), none⟩,
  ⟨some 17, .bin .add (.t 16) (.c (.i .i64 1)), none⟩,
  ⟨some 4, .mv (.t 17), none⟩]
def a59_l1 : ACode := .seq (.seq (.reg a59_r3 false []) (.cond (.t 15) (.skip) (.exit 0))) (.seq (.block 1 (.reg a59_r5 false [])) (.reg a59_r4 false []))
def a59_r6 : List AOper := [⟨some 28, .mv (.t 0), none⟩,
  ⟨some 29, .mv (.t 3), none⟩,
  ⟨some 30, .build [.emp, .i .i64 0, .i .i64 0] [(0, 1, .t 28), (2, 1, .t 29)], none⟩,
  ⟨some 31, .box (.t 30), none⟩,
  ⟨some 2, .mv (.t 31), none⟩]
def a59 : AFn := ⟨[false], .seq (.reg a59_r0 false []) (.seq (.reg a59_r1 false []) (.seq (.seq (.reg a59_r2 false []) (.block 0 (.loop [] a59_l1))) (.seq (.reg a59_r6 false []) (.ret)))), [.t 2], []⟩
theorem reads59 : readFn Try.prog Try.f59 [false] [] [[]] = some a59 := by kernel_rfl
-- spec.l2Draw
def a60_r0 : List AOper := [⟨some 4, .new [.b false, .emp, .emp, .emp, .emp], none⟩]
def a60_r1 : List AOper := [⟨some 7, .mv (.t 0), none⟩,
  ⟨some 8, .mv (.t 1), none⟩,
  ⟨some 9, .call (.c (.clo 112 [])) [.t 7, .t 8], none⟩,
  ⟨some 5, .new [.b false, .emp, .emp, .emp, .emp], none⟩,
  ⟨none, .st 5 (.t 5) (.t 9), none⟩]
def a60_r2 : List AOper := [⟨some 10, .mv (.t 0), none⟩,
  ⟨some 11, .call (.c (.clo 77 [])) [.t 10, .c (.i .i64 25)], none⟩]
def a60_r3 : List AOper := [⟨some 13, .bin .eql (.t 11) (.c (.i .i64 0)), none⟩,
  ⟨some 12, .mv (.t 13), none⟩]
def a60_r4 : List AOper := [⟨some 14, .fa 0 (.t 5), none⟩,
  ⟨some 15, .ld 1 false (.t 14), none⟩,
  ⟨some 16, .un .not (.t 15), none⟩,
  ⟨some 17, .fa 0 (.t 5), none⟩,
  ⟨none, .st 1 (.t 17) (.t 16), none⟩]
def a60_r5 : List AOper := [⟨some 19, .bin .eql (.t 11) (.c (.i .i64 1)), none⟩,
  ⟨some 18, .mv (.t 19), none⟩]
def a60_r6 : List AOper := [⟨some 20, .fa 4 (.t 5), none⟩,
  ⟨some 21, .ld 1 false (.t 20), none⟩,
  ⟨some 22, .mv (.t 0), none⟩,
  ⟨some 23, .call (.c (.clo 113 [])) [.t 22], none⟩,
  ⟨some 24, .rowOf 3 [.i .i64 0, .i .i64 0, .i .i64 0] 1 [(0, .t 23)], none⟩,
  ⟨some 25, .ap 3 24 (.t 21) (.t 24), none⟩,
  ⟨some 26, .fa 4 (.t 5), none⟩,
  ⟨none, .st 1 (.t 26) (.t 25), none⟩]
def a60_r7 : List AOper := [⟨some 28, .bin .eql (.t 11) (.c (.i .i64 2)), none⟩,
  ⟨some 27, .mv (.t 28), none⟩]
def a60_r8 : List AOper := [⟨some 29, .fa 1 (.t 5), none⟩,
  ⟨some 30, .ld 1 false (.t 29), none⟩,
  ⟨some 31, .mv (.t 0), none⟩,
  ⟨some 32, .call (.c (.clo 77 [])) [.t 31, .c (.i .i64 40)], none⟩,
  ⟨some 33, .build [.i .i64 0, .i .i64 0] [(0, 1, .t 32)], none⟩,
  ⟨some 34, .rowOf 2 [.i .i64 0, .i .i64 0] 1 [(0, .t 33)], none⟩,
  ⟨some 35, .ap 2 16 (.t 30) (.t 34), none⟩,
  ⟨some 36, .fa 1 (.t 5), none⟩,
  ⟨none, .st 1 (.t 36) (.t 35), none⟩]
def a60_r9 : List AOper := [⟨some 38, .bin .eql (.t 11) (.c (.i .i64 3)), none⟩,
  ⟨some 37, .mv (.t 38), none⟩]
def a60_r10 : List AOper := [⟨some 39, .fa 2 (.t 5), none⟩,
  ⟨some 40, .ld 1 false (.t 39), none⟩,
  ⟨some 41, .len false (.t 40), none⟩,
  ⟨some 42, .bin .gtr (.t 41) (.c (.i .i64 0)), none⟩]
def a60_r11 : List AOper := [⟨some 43, .fa 2 (.t 5), none⟩,
  ⟨some 44, .ld 1 false (.t 43), none⟩,
  ⟨some 45, .mv (.t 0), none⟩,
  ⟨some 46, .call (.c (.clo 77 [])) [.t 45, .c (.i .i64 40)], none⟩,
  ⟨some 47, .ia 1 (.t 44) (.c (.i .i64 0)), none⟩,
  ⟨none, .st 1 (.t 47) (.t 46), none⟩]
def a60_r12 : List AOper := [⟨some 49, .bin .eql (.t 11) (.c (.i .i64 4)), none⟩,
  ⟨some 48, .mv (.t 49), none⟩]
def a60_r13 : List AOper := [⟨some 50, .fa 3 (.t 5), none⟩,
  ⟨some 51, .ld 1 false (.t 50), none⟩,
  ⟨some 52, .len false (.t 51), none⟩,
  ⟨some 53, .bin .gtr (.t 52) (.c (.i .i64 0)), none⟩]
def a60_r14 : List AOper := [⟨some 54, .fa 3 (.t 5), none⟩,
  ⟨some 55, .ld 1 false (.t 54), none⟩,
  ⟨some 56, .call (.c (.clo 114 [])) [], none⟩,
  ⟨some 57, .ia 5 (.t 55) (.c (.i .i64 0)), none⟩,
  ⟨none, .st 5 (.t 57) (.t 56), none⟩]
def a60_r15 : List AOper := [⟨some 59, .bin .eql (.t 11) (.c (.i .i64 5)), none⟩,
  ⟨some 58, .mv (.t 59), none⟩]
def a60_r16 : List AOper := [⟨some 60, .fa 3 (.t 5), none⟩,
  ⟨some 61, .ld 1 false (.t 60), none⟩,
  ⟨some 62, .len false (.t 61), none⟩,
  ⟨some 63, .bin .gtr (.t 62) (.c (.i .i64 1)), none⟩]
def a60_r17 : List AOper := [⟨some 64, .fa 3 (.t 5), none⟩,
  ⟨some 65, .ld 1 false (.t 64), none⟩,
  ⟨some 66, .ia 5 (.t 65) (.c (.i .i64 1)), none⟩,
  ⟨some 67, .ld 5 true (.t 66), none⟩,
  ⟨some 68, .call (.c (.clo 115 [])) [.t 67], none⟩,
  ⟨some 6, .new [.b false, .emp, .emp, .emp, .emp], none⟩,
  ⟨none, .st 5 (.t 6) (.t 68), none⟩]
def a60_r18 : List AOper := [⟨some 69, .fa 3 (.t 5), none⟩,
  ⟨some 70, .ld 1 false (.t 69), none⟩,
  ⟨some 71, .ld 5 true (.t 6), none⟩,
  ⟨some 72, .ia 5 (.t 70) (.c (.i .i64 0)), none⟩,
  ⟨none, .st 5 (.t 72) (.t 71), none⟩]
def a60_r19 : List AOper := [⟨some 73, .ld 5 true (.t 5), none⟩,
  ⟨none, .st 5 (.t 4) (.t 73), none⟩]
def a60 : AFn := ⟨[true, false], .seq (.reg a60_r0 false []) (.seq (.reg a60_r1 false []) (.seq (.seq (.reg a60_r2 false []) (.block 0 (.seq (.reg a60_r3 false []) (.cond (.t 12) (.reg a60_r4 false []) (.seq (.reg a60_r5 false []) (.cond (.t 18) (.reg a60_r6 true [(1, 3), (1, 4)]) (.seq (.reg a60_r7 false []) (.cond (.t 27) (.reg a60_r8 true [(1, 3), (1, 5)]) (.seq (.reg a60_r9 false []) (.cond (.t 37) (.seq (.reg a60_r10 false []) (.cond (.t 42) (.reg a60_r11 true [(1, 3)]) (.skip))) (.seq (.reg a60_r12 false []) (.cond (.t 48) (.seq (.reg a60_r13 false []) (.cond (.t 53) (.reg a60_r14 true [(1, 2)]) (.skip))) (.seq (.reg a60_r15 false []) (.cond (.t 58) (.seq (.reg a60_r16 false []) (.cond (.t 63) (.seq (.reg a60_r17 false []) (.reg a60_r18 false [])) (.skip))) (.skip))))))))))))))) (.seq (.reg a60_r19 false []) (.ret)))), [.cell 4 5 true], []⟩
theorem reads60 : readFn Try.prog Try.f60 [true, false] [] [] = some a60 := by kernel_rfl
-- spec.l1DrawKey
def a61_r0 : List AOper := [⟨some 2, .mv (.c (.i .i64 0)), none⟩]
def a61_r1 : List AOper := [⟨some 3, .mv (.t 0), none⟩,
  ⟨some 4, .call (.c (.clo 86 [])) [.t 3, .c (.i .i64 15)], none⟩]
def a61_r2 : List AOper := [⟨some 5, .mv (.t 0), none⟩,
  ⟨some 6, .rowOf 1 [.i .i64 0] 3 [(0, .c (.i .i64 0)), (1, .c (.i .i64 999)), (2, .c (.i .i64 500))], none⟩,
  ⟨some 7, .call (.c (.clo 116 [])) [.t 5, .t 6], none⟩,
  ⟨some 2, .mv (.t 7), none⟩]
def a61_r3 : List AOper := [⟨some 8, .mv (.t 0), none⟩,
  ⟨some 9, .call (.c (.clo 77 [])) [.t 8, .c (.i .i64 30)], none⟩,
  ⟨some 2, .mv (.t 9), none⟩]
def a61 : AFn := ⟨[true], .seq (.reg a61_r0 false []) (.seq (.seq (.reg a61_r1 false []) (.cond (.t 4) (.seq (.reg a61_r2 false []) (.ret)) (.skip))) (.seq (.reg a61_r3 false []) (.ret))), [.t 2], []⟩
theorem reads61 : readFn Try.prog Try.f61 [true] [] [] = some a61 := by kernel_rfl
-- impl.TreeOk
def a62_r0 : List AOper := [⟨some 1, .box (.t 0), none⟩,
  ⟨some 2, .mv (.c (.b false)), none⟩]
def a62_r1 : List AOper := [⟨some 3, .ld 5 true (.t 1), none⟩,
  ⟨some 4, .call (.c (.clo 13 [])) [.t 3], none⟩,
  ⟨some 5, .bin .gtr (.t 4) (.c (.i .i64 0)), none⟩,
  ⟨some 2, .mv (.t 5), none⟩]
def a62 : AFn := ⟨[false], .seq (.reg a62_r0 false []) (.seq (.reg a62_r1 false []) (.ret)), [.t 2], []⟩
theorem reads62 : readFn Try.prog Try.f62 [false] [] [] = some a62 := by kernel_rfl
-- impl.kidOf
def a63_r0 : List AOper := [⟨some 4, .mv (.c (.i .i64 0)), none⟩]
def a63_r1 : List AOper := [⟨some 5, .mv (.c (.i .i64 0)), none⟩]
def a63_r2 : List AOper := [⟨some 8, .mv (.t 0), none⟩,
  ⟨some 9, .len false (.t 8), none⟩,
  ⟨some 10, .mv (.c (.i .i64 0)), none⟩]
def a63_r3 : List AOper := [⟨some 11, .bin .lss (.t 10) (.t 9), none⟩]
def a63_r4 : List AOper := [⟨some 12, .ia 1 (.t 8) (.t 10), none⟩,
  ⟨some 13, .ld 1 false (.t 12), none⟩,
  ⟨some 7, .mv (.t 13), none⟩]
def a63_r5 : List AOper := [⟨some 14, .mv (.t 7), none⟩,
  ⟨some 15, .mv (.t 1), none⟩,
  ⟨some 16, .bin .leq (.t 14) (.t 15), none⟩]
def a63_r6 : List AOper := [⟨some 17, .mv (.t 5), none⟩,
  ⟨some 18, .bin .add (.t 17) (.c (.i .i64 1)), none⟩,
  ⟨some 5, .mv (.t 18), none⟩]
def a63_r7 : List AOper := [⟨some 19, .bin .add (.t 10) (.c (.i .i64 1)), none⟩,
  ⟨some 10, .mv (.t 19), none⟩]
def a63_l1 : ACode := .seq (.reg a63_r3 false []) (.seq (.cond (.t 11) (.skip) (.exit 0)) (.seq (.block 1 (.seq (.reg a63_r4 false []) (.seq (.reg a63_r5 false []) (.cond (.t 16) (.reg a63_r6 false []) (.skip))))) (.reg a63_r7 false [])))
def a63_r8 : List AOper := [⟨some 20, .mv (.t 5), none⟩,
  ⟨some 4, .mv (.t 20), none⟩]
def a63 : AFn := ⟨[false, false], .seq (.reg a63_r0 false []) (.seq (.reg a63_r1 false []) (.seq (.seq (.reg a63_r2 false []) (.block 0 (.loop [] a63_l1))) (.seq (.reg a63_r8 false []) (.ret)))), [.t 4], []⟩
theorem reads63 : readFn Try.prog Try.f63 [false, false] [] [[]] = some a63 := by kernel_rfl
-- impl.depthOf
def a64_r0 : List AOper := [⟨some 4, .box (.t 0), none⟩,
  ⟨some 5, .box (.t 1), none⟩,
  ⟨some 6, .box (.t 2), none⟩,
  ⟨some 8, .mv (.c (.i .i64 0)), none⟩]
def a64_r1 : List AOper := [⟨some 15, .mv (.t 3), none⟩,
  ⟨some 16, .bin .eql (.t 15) (.c (.i .i64 0)), none⟩]
def a64_r2 : List AOper := [⟨some 8, .mv (.c (.i .i64 0)), none⟩]
def a64_r3 : List AOper := [⟨some 17, .fa 0 (.t 4), none⟩,
  ⟨some 18, .ld 1 false (.t 17), none⟩]
def a64_r4 : List AOper := [⟨some 19, .ld 5 true (.t 4), none⟩,
  ⟨some 20, .ld 1 false (.t 5), none⟩,
  ⟨some 21, .ld 1 false (.t 6), none⟩,
  ⟨some 22, .call (.c (.clo 117 [])) [.t 19, .t 20, .t 21], none⟩,
  ⟨some 23, .un .not (.t 22), none⟩]
def a64_r5 : List AOper := [⟨some 8, .mv (.c (.i .i64 0)), none⟩]
def a64_r6 : List AOper := [⟨some 8, .mv (.c (.i .i64 1)), none⟩]
def a64_r7 : List AOper := [⟨some 24, .fa 3 (.t 4), none⟩,
  ⟨some 25, .ld 1 false (.t 24), none⟩,
  ⟨some 26, .len false (.t 25), none⟩,
  ⟨some 27, .call (.c (.clo 118 [])) [.t 26, .c (.i .i64 2), .c (.i .i64 4)], none⟩,
  ⟨some 28, .un .not (.t 27), none⟩,
  ⟨some 29, .mv (.t 28), none⟩,
  ⟨some 30, .fa 2 (.t 4), some (29, false)⟩,
  ⟨some 31, .ld 1 false (.t 30), some (29, false)⟩,
  ⟨some 32, .len false (.t 31), some (29, false)⟩,
  ⟨some 33, .fa 3 (.t 4), some (29, false)⟩,
  ⟨some 34, .ld 1 false (.t 33), some (29, false)⟩,
  ⟨some 35, .len false (.t 34), some (29, false)⟩,
  ⟨some 36, .bin .sub (.t 35) (.c (.i .i64 1)), some (29, false)⟩,
  ⟨some 37, .bin .neq (.t 32) (.t 36), some (29, false)⟩,
  ⟨some 38, .pick (.t 29) (.c (.b true)) (.t 37), none⟩,
  ⟨some 39, .mv (.t 38), none⟩,
  ⟨some 40, .fa 4 (.t 4), some (39, false)⟩,
  ⟨some 41, .ld 1 false (.t 40), some (39, false)⟩,
  ⟨some 42, .len false (.t 41), some (39, false)⟩,
  ⟨some 43, .bin .gtr (.t 42) (.c (.i .i64 6)), some (39, false)⟩,
  ⟨some 44, .pick (.t 39) (.c (.b true)) (.t 43), none⟩,
  ⟨some 45, .mv (.t 44), none⟩,
  ⟨some 46, .fa 1 (.t 4), some (45, false)⟩,
  ⟨some 47, .ld 1 false (.t 46), some (45, false)⟩,
  ⟨some 48, .len false (.t 47), some (45, false)⟩,
  ⟨some 49, .bin .gtr (.t 48) (.c (.i .i64 0)), some (45, false)⟩,
  ⟨some 50, .pick (.t 45) (.c (.b true)) (.t 49), none⟩]
def a64_r8 : List AOper := [⟨some 8, .mv (.c (.i .i64 0)), none⟩]
def a64_r9 : List AOper := [⟨some 51, .fa 4 (.t 4), none⟩,
  ⟨some 52, .ld 1 false (.t 51), none⟩,
  ⟨some 53, .mf 120 [.t 5, .t 6], none⟩,
  ⟨some 54, .call (.c (.clo 119 [])) [.t 52, .t 53], none⟩]
def a64_r10 : List AOper := [⟨some 8, .mv (.c (.i .i64 0)), none⟩]
def a64_r11 : List AOper := [⟨some 9, .mv (.c (.i .i64 0)), none⟩]
def a64_r12 : List AOper := [⟨some 55, .ld 1 false (.t 5), none⟩,
  ⟨some 10, .mv (.t 55), none⟩]
def a64_r13 : List AOper := [⟨some 56, .fa 3 (.t 4), none⟩,
  ⟨some 57, .ld 1 false (.t 56), none⟩,
  ⟨some 58, .len false (.t 57), none⟩,
  ⟨some 59, .mv (.c (.i .i64 0)), none⟩]
def a64_r14 : List AOper := [⟨some 60, .bin .lss (.t 59) (.t 58), none⟩]
def a64_r15 : List AOper := [⟨some 61, .mv (.t 59), none⟩,
  ⟨some 62, .ia 5 (.t 57) (.t 59), none⟩,
  ⟨some 63, .ld 5 true (.t 62), none⟩,
  ⟨some 12, .new [.b false, .emp, .emp, .emp, .emp], none⟩,
  ⟨some 11, .mv (.t 61), none⟩,
  ⟨none, .st 5 (.t 12) (.t 63), none⟩]
def a64_r16 : List AOper := [⟨some 64, .ld 1 false (.t 6), none⟩,
  ⟨some 13, .mv (.t 64), none⟩]
def a64_r17 : List AOper := [⟨some 65, .mv (.t 11), none⟩,
  ⟨some 66, .fa 2 (.t 4), none⟩,
  ⟨some 67, .ld 1 false (.t 66), none⟩,
  ⟨some 68, .len false (.t 67), none⟩,
  ⟨some 69, .bin .lss (.t 65) (.t 68), none⟩]
def a64_r18 : List AOper := [⟨some 70, .fa 2 (.t 4), none⟩,
  ⟨some 71, .ld 1 false (.t 70), none⟩,
  ⟨some 72, .mv (.t 11), none⟩,
  ⟨some 73, .ia 1 (.t 71) (.t 72), none⟩,
  ⟨some 74, .ld 1 false (.t 73), none⟩,
  ⟨some 13, .mv (.t 74), none⟩]
def a64_r19 : List AOper := [⟨some 75, .mv (.t 11), none⟩,
  ⟨some 76, .fa 2 (.t 4), none⟩,
  ⟨some 77, .ld 1 false (.t 76), none⟩,
  ⟨some 78, .len false (.t 77), none⟩,
  ⟨some 79, .bin .lss (.t 75) (.t 78), none⟩,
  ⟨some 80, .mv (.t 79), none⟩,
  ⟨some 81, .mv (.t 13), some (80, true)⟩,
  ⟨some 82, .call (.c (.clo 118 [])) [.t 81, .c (.i .i64 1), .c (.i .i64 999)], some (80, true)⟩,
  ⟨some 83, .un .not (.t 82), some (80, true)⟩,
  ⟨some 84, .mv (.t 83), some (80, true)⟩,
  ⟨some 85, .mv (.t 13), some (84, false)⟩,
  ⟨some 86, .mv (.t 10), some (84, false)⟩,
  ⟨some 87, .bin .leq (.t 85) (.t 86), some (84, false)⟩,
  ⟨some 88, .pick (.t 84) (.c (.b true)) (.t 87), some (80, true)⟩,
  ⟨some 89, .mv (.t 88), some (80, true)⟩,
  ⟨some 90, .mv (.t 13), some (89, false)⟩,
  ⟨some 91, .ld 1 false (.t 6), some (89, false)⟩,
  ⟨some 92, .bin .geq (.t 90) (.t 91), some (89, false)⟩,
  ⟨some 93, .pick (.t 89) (.c (.b true)) (.t 92), some (80, true)⟩,
  ⟨some 94, .pick (.t 80) (.t 93) (.c (.b false)), none⟩]
def a64_r20 : List AOper := [⟨some 8, .mv (.c (.i .i64 0)), none⟩]
def a64_r21 : List AOper := [⟨some 95, .ld 5 true (.t 12), none⟩,
  ⟨some 96, .mv (.t 10), none⟩,
  ⟨some 97, .mv (.t 13), none⟩,
  ⟨some 98, .mv (.t 3), none⟩,
  ⟨some 99, .bin .sub (.t 98) (.c (.i .i64 1)), none⟩,
  ⟨some 100, .call (.c (.clo 64 [])) [.t 95, .t 96, .t 97, .t 99], none⟩,
  ⟨some 14, .mv (.t 100), none⟩]
def a64_r22 : List AOper := [⟨some 101, .mv (.t 14), none⟩,
  ⟨some 102, .bin .eql (.t 101) (.c (.i .i64 0)), none⟩,
  ⟨some 103, .mv (.t 102), none⟩,
  ⟨some 104, .mv (.t 11), some (103, false)⟩,
  ⟨some 105, .bin .gtr (.t 104) (.c (.i .i64 0)), some (103, false)⟩,
  ⟨some 106, .mv (.t 105), some (103, false)⟩,
  ⟨some 107, .mv (.t 14), some (106, true)⟩,
  ⟨some 108, .mv (.t 9), some (106, true)⟩,
  ⟨some 109, .bin .neq (.t 107) (.t 108), some (106, true)⟩,
  ⟨some 110, .pick (.t 106) (.t 109) (.c (.b false)), some (103, false)⟩,
  ⟨some 111, .pick (.t 103) (.c (.b true)) (.t 110), none⟩]
def a64_r23 : List AOper := [⟨some 8, .mv (.c (.i .i64 0)), none⟩]
def a64_r24 : List AOper := [⟨some 112, .mv (.t 14), none⟩,
  ⟨some 9, .mv (.t 112), none⟩]
def a64_r25 : List AOper := [⟨some 113, .mv (.t 13), none⟩,
  ⟨some 10, .mv (.t 113), none⟩]
def a64_r26 : List AOper := [⟨some 114, .bin .add (.t 59) (.c (.i .i64 1)), none⟩,
  ⟨some 59, .mv (.t 114), none⟩]
def a64_l1 : ACode := .seq (.reg a64_r14 false []) (.seq (.cond (.t 60) (.skip) (.exit 0)) (.seq (.block 1 (.seq (.reg a64_r15 false []) (.seq (.reg a64_r16 false []) (.seq (.seq (.reg a64_r17 false []) (.cond (.t 69) (.reg a64_r18 false []) (.skip))) (.seq (.seq (.reg a64_r19 false []) (.cond (.t 94) (.seq (.reg a64_r20 false []) (.ret)) (.skip))) (.seq (.reg a64_r21 false []) (.seq (.seq (.reg a64_r22 false []) (.cond (.t 111) (.seq (.reg a64_r23 false []) (.ret)) (.skip))) (.seq (.reg a64_r24 false []) (.reg a64_r25 false []))))))))) (.reg a64_r26 false [])))
def a64_r27 : List AOper := [⟨some 115, .mv (.t 9), none⟩,
  ⟨some 116, .bin .add (.t 115) (.c (.i .i64 1)), none⟩,
  ⟨some 8, .mv (.t 116), none⟩]
def a64 : AFn := ⟨[false, false, false, false], .seq (.reg a64_r0 false []) (.seq (.seq (.reg a64_r1 false []) (.cond (.t 16) (.seq (.reg a64_r2 false []) (.ret)) (.skip))) (.seq (.seq (.reg a64_r3 false []) (.cond (.t 18) (.seq (.seq (.reg a64_r4 false []) (.cond (.t 23) (.seq (.reg a64_r5 false []) (.ret)) (.skip))) (.seq (.reg a64_r6 false []) (.ret))) (.skip))) (.seq (.seq (.reg a64_r7 false []) (.cond (.t 50) (.seq (.reg a64_r8 false []) (.ret)) (.skip))) (.seq (.seq (.reg a64_r9 false []) (.cond (.t 54) (.seq (.reg a64_r10 false []) (.ret)) (.skip))) (.seq (.reg a64_r11 false []) (.seq (.reg a64_r12 false []) (.seq (.seq (.reg a64_r13 false []) (.block 0 (.loop [] a64_l1))) (.seq (.reg a64_r27 false []) (.ret))))))))), [.t 8], []⟩
theorem reads64 : readFn Try.prog Try.f64 [false, false, false, false] [] [[]] = some a64 := by kernel_rfl
-- spec.l2Kid
def a67_r0 : List AOper := [⟨some 2, .box (.t 0), none⟩,
  ⟨some 4, .mv (.c (.i .i64 0)), none⟩]
def a67_r1 : List AOper := [⟨some 5, .mv (.c (.i .i64 0)), none⟩]
def a67_r2 : List AOper := [⟨some 6, .mv (.t 5), none⟩,
  ⟨some 7, .fa 2 (.t 2), none⟩,
  ⟨some 8, .ld 1 false (.t 7), none⟩,
  ⟨some 9, .len false (.t 8), none⟩,
  ⟨some 10, .bin .lss (.t 6) (.t 9), none⟩,
  ⟨some 11, .mv (.t 10), none⟩,
  ⟨some 12, .fa 2 (.t 2), some (11, true)⟩,
  ⟨some 13, .ld 1 false (.t 12), some (11, true)⟩,
  ⟨some 14, .mv (.t 5), some (11, true)⟩,
  ⟨some 15, .ia 1 (.t 13) (.t 14), some (11, true)⟩,
  ⟨some 16, .ld 1 false (.t 15), some (11, true)⟩,
  ⟨some 17, .mv (.t 1), some (11, true)⟩,
  ⟨some 18, .bin .leq (.t 16) (.t 17), some (11, true)⟩,
  ⟨some 19, .pick (.t 11) (.t 18) (.c (.b false)), none⟩]
def a67_r3 : List AOper := [⟨some 20, .mv (.t 5), none⟩,
  ⟨some 21, .bin .add (.t 20) (.c (.i .i64 1)), none⟩,
  ⟨some 5, .mv (.t 21), none⟩]
def a67_l1 : ACode := .seq (.seq (.reg a67_r2 false []) (.cond (.t 19) (.skip) (.exit 0))) (.block 1 (.reg a67_r3 false []))
def a67_r4 : List AOper := [⟨some 22, .mv (.t 5), none⟩,
  ⟨some 4, .mv (.t 22), none⟩]
def a67 : AFn := ⟨[false, false], .seq (.reg a67_r0 false []) (.seq (.reg a67_r1 false []) (.seq (.block 0 (.loop [] a67_l1)) (.seq (.reg a67_r4 false []) (.ret)))), [.t 4], []⟩
theorem reads67 : readFn Try.prog Try.f67 [false, false] [] [[]] = some a67 := by kernel_rfl
-- spec.l2Depth
def a68_r0 : List AOper := [⟨some 4, .box (.t 0), none⟩,
  ⟨some 8, .mv (.c (.i .i64 0)), none⟩]
def a68_r1 : List AOper := [⟨some 16, .mv (.t 3), none⟩,
  ⟨some 17, .bin .eql (.t 16) (.c (.i .i64 0)), none⟩]
def a68_r2 : List AOper := [⟨some 8, .mv (.c (.i .i64 0)), none⟩]
def a68_r3 : List AOper := [⟨some 18, .fa 0 (.t 4), none⟩,
  ⟨some 19, .ld 1 false (.t 18), none⟩]
def a68_r4 : List AOper := [⟨some 20, .ld 5 true (.t 4), none⟩,
  ⟨some 21, .mv (.t 1), none⟩,
  ⟨some 22, .mv (.t 2), none⟩,
  ⟨some 23, .call (.c (.clo 122 [])) [.t 20, .t 21, .t 22], none⟩,
  ⟨some 8, .mv (.t 23), none⟩]
def a68_r5 : List AOper := [⟨some 24, .fa 3 (.t 4), none⟩,
  ⟨some 25, .ld 1 false (.t 24), none⟩,
  ⟨some 26, .len false (.t 25), none⟩,
  ⟨some 9, .mv (.t 26), none⟩]
def a68_r6 : List AOper := [⟨some 27, .fa 1 (.t 4), none⟩,
  ⟨some 28, .ld 1 false (.t 27), none⟩,
  ⟨some 29, .len false (.t 28), none⟩,
  ⟨some 30, .bin .gtr (.t 29) (.c (.i .i64 0)), none⟩,
  ⟨some 31, .mv (.t 30), none⟩,
  ⟨some 32, .mv (.t 9), some (31, false)⟩,
  ⟨some 33, .call (.c (.clo 85 [])) [.t 32, .c (.i .i64 2), .c (.i .i64 4)], some (31, false)⟩,
  ⟨some 34, .un .not (.t 33), some (31, false)⟩,
  ⟨some 35, .pick (.t 31) (.c (.b true)) (.t 34), none⟩,
  ⟨some 36, .mv (.t 35), none⟩,
  ⟨some 37, .fa 2 (.t 4), some (36, false)⟩,
  ⟨some 38, .ld 1 false (.t 37), some (36, false)⟩,
  ⟨some 39, .len false (.t 38), some (36, false)⟩,
  ⟨some 40, .mv (.t 9), some (36, false)⟩,
  ⟨some 41, .bin .sub (.t 40) (.c (.i .i64 1)), some (36, false)⟩,
  ⟨some 42, .bin .neq (.t 39) (.t 41), some (36, false)⟩,
  ⟨some 43, .pick (.t 36) (.c (.b true)) (.t 42), none⟩,
  ⟨some 44, .mv (.t 43), none⟩,
  ⟨some 45, .fa 4 (.t 4), some (44, false)⟩,
  ⟨some 46, .ld 1 false (.t 45), some (44, false)⟩,
  ⟨some 47, .len false (.t 46), some (44, false)⟩,
  ⟨some 48, .bin .gtr (.t 47) (.c (.i .i64 6)), some (44, false)⟩,
  ⟨some 49, .pick (.t 44) (.c (.b true)) (.t 48), none⟩]
def a68_r7 : List AOper := [⟨some 8, .mv (.c (.i .i64 0)), none⟩]
def a68_r8 : List AOper := [⟨some 10, .mv (.c (.i .i64 0)), none⟩]
def a68_r9 : List AOper := [⟨some 50, .mv (.t 10), none⟩,
  ⟨some 51, .fa 4 (.t 4), none⟩,
  ⟨some 52, .ld 1 false (.t 51), none⟩,
  ⟨some 53, .len false (.t 52), none⟩,
  ⟨some 54, .bin .lss (.t 50) (.t 53), none⟩]
def a68_r11 : List AOper := [⟨some 57, .fa 4 (.t 4), none⟩,
  ⟨some 58, .ld 1 false (.t 57), none⟩,
  ⟨some 59, .mv (.t 10), none⟩,
  ⟨some 60, .ia 3 (.t 58) (.t 59), none⟩,
  ⟨some 61, .ld 3 true (.t 60), none⟩,
  ⟨some 62, .call (.c (.clo 123 [])) [.t 61], none⟩,
  ⟨some 63, .un .not (.t 62), none⟩,
  ⟨some 64, .mv (.t 63), none⟩,
  ⟨some 65, .fa 4 (.t 4), some (64, false)⟩,
  ⟨some 66, .ld 1 false (.t 65), some (64, false)⟩,
  ⟨some 67, .mv (.t 10), some (64, false)⟩,
  ⟨some 68, .ia 3 (.t 66) (.t 67), some (64, false)⟩,
  ⟨some 69, .fa 0 (.t 68), some (64, false)⟩,
  ⟨some 70, .ld 1 false (.t 69), some (64, false)⟩,
  ⟨some 71, .bin .eql (.t 70) (.c (.i .i64 4)), some (64, false)⟩,
  ⟨some 72, .pick (.t 64) (.c (.b true)) (.t 71), none⟩,
  ⟨some 73, .mv (.t 72), none⟩,
  ⟨some 74, .fa 4 (.t 4), some (73, false)⟩,
  ⟨some 75, .ld 1 false (.t 74), some (73, false)⟩,
  ⟨some 76, .mv (.t 10), some (73, false)⟩,
  ⟨some 77, .ia 3 (.t 75) (.t 76), some (73, false)⟩,
  ⟨some 78, .fa 1 (.t 77), some (73, false)⟩,
  ⟨some 79, .ld 1 false (.t 78), some (73, false)⟩,
  ⟨some 80, .mv (.t 1), some (73, false)⟩,
  ⟨some 81, .mv (.t 2), some (73, false)⟩,
  ⟨some 82, .bin .sub (.t 81) (.c (.i .i64 1)), some (73, false)⟩,
  ⟨some 83, .call (.c (.clo 85 [])) [.t 79, .t 80, .t 82], some (73, false)⟩,
  ⟨some 84, .un .not (.t 83), some (73, false)⟩,
  ⟨some 85, .pick (.t 73) (.c (.b true)) (.t 84), none⟩]
def a68_r12 : List AOper := [⟨some 8, .mv (.c (.i .i64 0)), none⟩]
def a68_r10 : List AOper := [⟨some 55, .mv (.t 10), none⟩,
  ⟨some 56, .bin .add (.t 55) (.c (.i .i64 1)), none⟩,
  ⟨some 10, .mv (.t 56), none⟩]
def a68_l1 : ACode := .seq (.seq (.reg a68_r9 false []) (.cond (.t 54) (.skip) (.exit 0))) (.seq (.block 1 (.seq (.reg a68_r11 false []) (.cond (.t 85) (.seq (.reg a68_r12 false []) (.ret)) (.skip)))) (.reg a68_r10 false []))
def a68_r13 : List AOper := [⟨some 11, .mv (.c (.i .i64 0)), none⟩]
def a68_r14 : List AOper := [⟨some 86, .mv (.t 1), none⟩,
  ⟨some 12, .mv (.t 86), none⟩]
def a68_r15 : List AOper := [⟨some 13, .mv (.c (.i .i64 0)), none⟩]
def a68_r16 : List AOper := [⟨some 87, .mv (.t 13), none⟩,
  ⟨some 88, .mv (.t 9), none⟩,
  ⟨some 89, .bin .lss (.t 87) (.t 88), none⟩]
def a68_r18 : List AOper := [⟨some 92, .mv (.t 2), none⟩,
  ⟨some 14, .mv (.t 92), none⟩]
def a68_r19 : List AOper := [⟨some 93, .mv (.t 13), none⟩,
  ⟨some 94, .mv (.t 9), none⟩,
  ⟨some 95, .bin .sub (.t 94) (.c (.i .i64 1)), none⟩,
  ⟨some 96, .bin .lss (.t 93) (.t 95), none⟩]
def a68_r20 : List AOper := [⟨some 97, .fa 2 (.t 4), none⟩,
  ⟨some 98, .ld 1 false (.t 97), none⟩,
  ⟨some 99, .mv (.t 13), none⟩,
  ⟨some 100, .ia 1 (.t 98) (.t 99), none⟩,
  ⟨some 101, .ld 1 false (.t 100), none⟩,
  ⟨some 14, .mv (.t 101), none⟩]
def a68_r21 : List AOper := [⟨some 102, .mv (.t 14), none⟩,
  ⟨some 103, .mv (.t 12), none⟩,
  ⟨some 104, .bin .add (.t 103) (.c (.i .i64 1)), none⟩,
  ⟨some 105, .mv (.t 2), none⟩,
  ⟨some 106, .bin .sub (.t 105) (.c (.i .i64 1)), none⟩,
  ⟨some 107, .call (.c (.clo 85 [])) [.t 102, .t 104, .t 106], none⟩,
  ⟨some 108, .un .not (.t 107), none⟩]
def a68_r22 : List AOper := [⟨some 8, .mv (.c (.i .i64 0)), none⟩]
def a68_r23 : List AOper := [⟨some 109, .fa 3 (.t 4), none⟩,
  ⟨some 110, .ld 1 false (.t 109), none⟩,
  ⟨some 111, .mv (.t 13), none⟩,
  ⟨some 112, .ia 5 (.t 110) (.t 111), none⟩,
  ⟨some 113, .ld 5 true (.t 112), none⟩,
  ⟨some 114, .mv (.t 12), none⟩,
  ⟨some 115, .mv (.t 14), none⟩,
  ⟨some 116, .mv (.t 3), none⟩,
  ⟨some 117, .bin .sub (.t 116) (.c (.i .i64 1)), none⟩,
  ⟨some 118, .call (.c (.clo 68 [])) [.t 113, .t 114, .t 115, .t 117], none⟩,
  ⟨some 15, .mv (.t 118), none⟩]
def a68_r24 : List AOper := [⟨some 119, .mv (.t 15), none⟩,
  ⟨some 120, .bin .eql (.t 119) (.c (.i .i64 0)), none⟩,
  ⟨some 121, .mv (.t 120), none⟩,
  ⟨some 122, .mv (.t 13), some (121, false)⟩,
  ⟨some 123, .bin .gtr (.t 122) (.c (.i .i64 0)), some (121, false)⟩,
  ⟨some 124, .mv (.t 123), some (121, false)⟩,
  ⟨some 125, .mv (.t 15), some (124, true)⟩,
  ⟨some 126, .mv (.t 11), some (124, true)⟩,
  ⟨some 127, .bin .neq (.t 125) (.t 126), some (124, true)⟩,
  ⟨some 128, .pick (.t 124) (.t 127) (.c (.b false)), some (121, false)⟩,
  ⟨some 129, .pick (.t 121) (.c (.b true)) (.t 128), none⟩]
def a68_r25 : List AOper := [⟨some 8, .mv (.c (.i .i64 0)), none⟩]
def a68_r26 : List AOper := [⟨some 130, .mv (.t 15), none⟩,
  ⟨some 11, .mv (.t 130), none⟩]
def a68_r27 : List AOper := [⟨some 131, .mv (.t 14), none⟩,
  ⟨some 12, .mv (.t 131), none⟩]
def a68_r17 : List AOper := [⟨some 90, .mv (.t 13), none⟩,
  ⟨some 91, .bin .add (.t 90) (.c (.i .i64 1)), none⟩,
  ⟨some 13, .mv (.t 91), none⟩]
def a68_l2 : ACode := .seq (.seq (.reg a68_r16 false []) (.cond (.t 89) (.skip) (.exit 2))) (.seq (.block 3 (.seq (.reg a68_r18 false []) (.seq (.seq (.reg a68_r19 false []) (.cond (.t 96) (.seq (.reg a68_r20 false []) (.seq (.reg a68_r21 false []) (.cond (.t 108) (.seq (.reg a68_r22 false []) (.ret)) (.skip)))) (.skip))) (.seq (.reg a68_r23 false []) (.seq (.seq (.reg a68_r24 false []) (.cond (.t 129) (.seq (.reg a68_r25 false []) (.ret)) (.skip))) (.seq (.reg a68_r26 false []) (.reg a68_r27 false []))))))) (.reg a68_r17 false []))
def a68_r28 : List AOper := [⟨some 132, .mv (.t 11), none⟩,
  ⟨some 133, .bin .add (.t 132) (.c (.i .i64 1)), none⟩,
  ⟨some 8, .mv (.t 133), none⟩]
def a68 : AFn := ⟨[false, false, false, false], .seq (.reg a68_r0 false []) (.seq (.seq (.reg a68_r1 false []) (.cond (.t 17) (.seq (.reg a68_r2 false []) (.ret)) (.skip))) (.seq (.seq (.reg a68_r3 false []) (.cond (.t 19) (.seq (.reg a68_r4 false []) (.ret)) (.skip))) (.seq (.reg a68_r5 false []) (.seq (.seq (.reg a68_r6 false []) (.cond (.t 49) (.seq (.reg a68_r7 false []) (.ret)) (.skip))) (.seq (.seq (.reg a68_r8 false []) (.block 0 (.loop [] a68_l1))) (.seq (.reg a68_r13 false []) (.seq (.reg a68_r14 false []) (.seq (.seq (.reg a68_r15 false []) (.block 2 (.loop [] a68_l2))) (.seq (.reg a68_r28 false []) (.ret)))))))))), [.t 8], []⟩
theorem reads68 : readFn Try.prog Try.f68 [false, false, false, false] [] [[], []] = some a68 := by kernel_rfl
-- impl.leafOf
def a69_r0 : List AOper := [⟨some 2, .box (.t 0), none⟩,
  ⟨some 4, .new [.b false, .emp, .emp, .emp, .emp], none⟩]
def a69_r1 : List AOper := [⟨some 5, .fa 0 (.t 2), none⟩,
  ⟨some 6, .ld 1 false (.t 5), none⟩,
  ⟨some 7, .un .not (.t 6), none⟩]
def a69_r2 : List AOper := [⟨some 8, .fa 3 (.t 2), none⟩,
  ⟨some 9, .ld 1 false (.t 8), none⟩,
  ⟨some 10, .fa 2 (.t 2), none⟩,
  ⟨some 11, .ld 1 false (.t 10), none⟩,
  ⟨some 12, .mv (.t 1), none⟩,
  ⟨some 13, .call (.c (.clo 63 [])) [.t 11, .t 12], none⟩,
  ⟨some 14, .ia 5 (.t 9) (.t 13), none⟩,
  ⟨some 15, .ld 5 true (.t 14), none⟩,
  ⟨none, .st 5 (.t 2) (.t 15), none⟩]
def a69_l1 : ACode := .seq (.seq (.reg a69_r1 false []) (.cond (.t 7) (.skip) (.exit 0))) (.block 1 (.reg a69_r2 true [(1, 5)]))
def a69_r3 : List AOper := [⟨some 16, .ld 5 true (.t 2), none⟩,
  ⟨none, .st 5 (.t 4) (.t 16), none⟩]
def a69 : AFn := ⟨[false, false], .seq (.reg a69_r0 false []) (.seq (.block 0 (.loop [] a69_l1)) (.seq (.reg a69_r3 false []) (.ret))), [.cell 4 5 true], []⟩
theorem reads69 : readFn Try.prog Try.f69 [false, false] [] [[]] = some a69 := by kernel_rfl
-- impl.MapAll
def a70_r0 : List AOper := [⟨some 4, .mv (.c (.emp)), none⟩]
def a70_r1 : List AOper := [⟨some 8, .mv (.t 0), none⟩,
  ⟨some 9, .call (.c (.clo 124 [])) [.t 8], none⟩,
  ⟨some 5, .mv (.t 9), none⟩]
def a70_r2 : List AOper := [⟨some 10, .mv (.t 0), none⟩,
  ⟨some 11, .call (.c (.clo 33 [])) [.t 10], none⟩,
  ⟨some 12, .un .not (.t 11), none⟩]
def a70_r3 : List AOper := [⟨some 13, .mv (.t 5), none⟩,
  ⟨some 4, .mv (.t 13), none⟩]
def a70_r4 : List AOper := [⟨some 14, .mv (.t 1), none⟩,
  ⟨some 15, .len false (.t 14), none⟩,
  ⟨some 16, .mv (.c (.i .i64 0)), none⟩]
def a70_r5 : List AOper := [⟨some 17, .bin .lss (.t 16) (.t 15), none⟩]
def a70_r6 : List AOper := [⟨some 18, .ia 3 (.t 14) (.t 16), none⟩,
  ⟨some 19, .ld 3 true (.t 18), none⟩,
  ⟨some 7, .new [.i .i64 0, .i .i64 0, .i .i64 0], none⟩,
  ⟨none, .st 3 (.t 7) (.t 19), none⟩]
def a70_r7 : List AOper := [⟨some 20, .ld 3 true (.t 7), none⟩,
  ⟨some 21, .call (.c (.clo 121 [])) [.t 20], none⟩]
def a70_r8 : List AOper := [⟨some 22, .mv (.t 5), none⟩,
  ⟨some 23, .ld 3 true (.t 7), none⟩,
  ⟨some 24, .call (.c (.clo 125 [])) [.t 22, .t 23], none⟩,
  ⟨some 5, .mv (.t 24), none⟩]
def a70_r9 : List AOper := [⟨some 25, .bin .add (.t 16) (.c (.i .i64 1)), none⟩,
  ⟨some 16, .mv (.t 25), none⟩]
def a70_l1 : ACode := .seq (.reg a70_r5 false []) (.seq (.cond (.t 17) (.skip) (.exit 0)) (.seq (.block 1 (.seq (.reg a70_r6 false []) (.seq (.reg a70_r7 false []) (.cond (.t 21) (.reg a70_r8 false []) (.skip))))) (.reg a70_r9 false [])))
def a70_r10 : List AOper := [⟨some 26, .mv (.t 5), none⟩,
  ⟨some 4, .mv (.t 26), none⟩]
def a70 : AFn := ⟨[false, false], .seq (.reg a70_r0 false []) (.seq (.reg a70_r1 false []) (.seq (.seq (.reg a70_r2 false []) (.cond (.t 12) (.seq (.reg a70_r3 false []) (.ret)) (.skip))) (.seq (.seq (.reg a70_r4 false []) (.block 0 (.loop [] a70_l1))) (.seq (.reg a70_r10 false []) (.ret))))), [.t 4], []⟩
theorem reads70 : readFn Try.prog Try.f70 [false, false] [] [[]] = some a70 := by kernel_rfl
-- impl.pending
def a71_r0 : List AOper := [⟨some 2, .box (.t 0), none⟩,
  ⟨some 4, .mv (.c (.emp)), none⟩]
def a71_r1 : List AOper := [⟨some 8, .rowOf 3 [.i .i64 0, .i .i64 0, .i .i64 0] 0 [], none⟩,
  ⟨some 5, .mv (.t 8), none⟩]
def a71_r2 : List AOper := [⟨some 9, .fa 0 (.t 2), none⟩,
  ⟨some 10, .ld 1 false (.t 9), none⟩]
def a71_r3 : List AOper := [⟨some 11, .mv (.t 5), none⟩,
  ⟨some 4, .mv (.t 11), none⟩]
def a71_r4 : List AOper := [⟨some 12, .fa 3 (.t 2), none⟩,
  ⟨some 13, .ld 1 false (.t 12), none⟩,
  ⟨some 14, .fa 2 (.t 2), none⟩,
  ⟨some 15, .ld 1 false (.t 14), none⟩,
  ⟨some 16, .mv (.t 1), none⟩,
  ⟨some 17, .call (.c (.clo 63 [])) [.t 15, .t 16], none⟩,
  ⟨some 18, .ia 5 (.t 13) (.t 17), none⟩,
  ⟨some 19, .ld 5 true (.t 18), none⟩,
  ⟨some 20, .mv (.t 1), none⟩,
  ⟨some 21, .call (.c (.clo 71 [])) [.t 19, .t 20], none⟩,
  ⟨some 5, .mv (.t 21), none⟩]
def a71_r5 : List AOper := [⟨some 22, .fa 4 (.t 2), none⟩,
  ⟨some 23, .ld 1 false (.t 22), none⟩,
  ⟨some 24, .len false (.t 23), none⟩,
  ⟨some 25, .mv (.c (.i .i64 0)), none⟩]
def a71_r6 : List AOper := [⟨some 26, .bin .lss (.t 25) (.t 24), none⟩]
def a71_r7 : List AOper := [⟨some 27, .ia 3 (.t 23) (.t 25), none⟩,
  ⟨some 28, .ld 3 true (.t 27), none⟩,
  ⟨some 7, .new [.i .i64 0, .i .i64 0, .i .i64 0], none⟩,
  ⟨none, .st 3 (.t 7) (.t 28), none⟩]
def a71_r8 : List AOper := [⟨some 29, .fa 1 (.t 7), none⟩,
  ⟨some 30, .ld 1 false (.t 29), none⟩,
  ⟨some 31, .mv (.t 1), none⟩,
  ⟨some 32, .bin .eql (.t 30) (.t 31), none⟩]
def a71_r9 : List AOper := [⟨some 33, .mv (.t 5), none⟩,
  ⟨some 34, .ld 3 true (.t 7), none⟩,
  ⟨some 35, .rowOf 3 [.i .i64 0, .i .i64 0, .i .i64 0] 1 [(0, .t 34)], none⟩,
  ⟨some 36, .ap 3 24 (.t 33) (.t 35), none⟩,
  ⟨some 5, .mv (.t 36), none⟩]
def a71_r10 : List AOper := [⟨some 37, .bin .add (.t 25) (.c (.i .i64 1)), none⟩,
  ⟨some 25, .mv (.t 37), none⟩]
def a71_l1 : ACode := .seq (.reg a71_r6 false []) (.seq (.cond (.t 26) (.skip) (.exit 0)) (.seq (.block 1 (.seq (.reg a71_r7 false []) (.seq (.reg a71_r8 false []) (.cond (.t 32) (.reg a71_r9 false []) (.skip))))) (.reg a71_r10 false [])))
def a71_r11 : List AOper := [⟨some 38, .mv (.t 5), none⟩,
  ⟨some 4, .mv (.t 38), none⟩]
def a71 : AFn := ⟨[false, false], .seq (.reg a71_r0 false []) (.seq (.reg a71_r1 false []) (.seq (.seq (.reg a71_r2 false []) (.cond (.t 10) (.seq (.reg a71_r3 false []) (.ret)) (.skip))) (.seq (.reg a71_r4 true [(1, 5)]) (.seq (.seq (.reg a71_r5 false []) (.block 0 (.loop [] a71_l1))) (.seq (.reg a71_r11 false []) (.ret)))))), [.t 4], []⟩
theorem reads71 : readFn Try.prog Try.f71 [false, false] [] [[]] = some a71 := by kernel_rfl
-- spec.MapGet
def a72_r0 : List AOper := [⟨some 4, .mv (.c (.i .i64 0)), none⟩,
  ⟨some 5, .mv (.c (.b false)), none⟩]
def a72_r1 : List AOper := [⟨some 6, .mv (.c (.i .i64 0)), none⟩]
def a72_r2 : List AOper := [⟨some 7, .mv (.t 6), none⟩,
  ⟨some 8, .mv (.t 0), none⟩,
  ⟨some 9, .len false (.t 8), none⟩,
  ⟨some 10, .bin .lss (.t 7) (.t 9), none⟩]
def a72_r4 : List AOper := [⟨some 13, .mv (.t 0), none⟩,
  ⟨some 14, .mv (.t 6), none⟩,
  ⟨some 15, .ia 2 (.t 13) (.t 14), none⟩,
  ⟨some 16, .fa 0 (.t 15), none⟩,
  ⟨some 17, .ld 1 false (.t 16), none⟩,
  ⟨some 18, .mv (.t 1), none⟩,
  ⟨some 19, .bin .eql (.t 17) (.t 18), none⟩]
def a72_r5 : List AOper := [⟨some 20, .mv (.t 0), none⟩,
  ⟨some 21, .mv (.t 6), none⟩,
  ⟨some 22, .ia 2 (.t 20) (.t 21), none⟩,
  ⟨some 23, .fa 1 (.t 22), none⟩,
  ⟨some 24, .ld 1 false (.t 23), none⟩,
  ⟨some 4, .mv (.t 24), none⟩,
  ⟨some 5, .mv (.c (.b true)), none⟩]
def a72_r3 : List AOper := [⟨some 11, .mv (.t 6), none⟩,
  ⟨some 12, .bin .add (.t 11) (.c (.i .i64 1)), none⟩,
  ⟨some 6, .mv (.t 12), none⟩]
def a72_l1 : ACode := .seq (.seq (.reg a72_r2 false []) (.cond (.t 10) (.skip) (.exit 0))) (.seq (.block 1 (.seq (.reg a72_r4 false []) (.cond (.t 19) (.seq (.reg a72_r5 false []) (.ret)) (.skip)))) (.reg a72_r3 false []))
def a72_r6 : List AOper := [⟨some 4, .mv (.c (.i .i64 0)), none⟩,
  ⟨some 5, .mv (.c (.b false)), none⟩]
def a72 : AFn := ⟨[false, false], .seq (.reg a72_r0 false []) (.seq (.seq (.reg a72_r1 false []) (.block 0 (.loop [] a72_l1))) (.seq (.reg a72_r6 false []) (.ret))), [.t 4, .t 5], []⟩
theorem reads72 : readFn Try.prog Try.f72 [false, false] [] [[]] = some a72 := by kernel_rfl
-- spec.MapAll
def a73_r0 : List AOper := [⟨some 4, .mv (.c (.emp)), none⟩]
def a73_r1 : List AOper := [⟨some 7, .rowOf 2 [.i .i64 0, .i .i64 0] 0 [], none⟩,
  ⟨some 8, .mv (.t 0), none⟩,
  ⟨some 9, .ap 2 16 (.t 7) (.t 8), none⟩,
  ⟨some 5, .mv (.t 9), none⟩]
def a73_r2 : List AOper := [⟨some 6, .mv (.c (.i .i64 0)), none⟩]
def a73_r3 : List AOper := [⟨some 10, .mv (.t 6), none⟩,
  ⟨some 11, .mv (.t 1), none⟩,
  ⟨some 12, .len false (.t 11), none⟩,
  ⟨some 13, .bin .lss (.t 10) (.t 12), none⟩]
def a73_r5 : List AOper := [⟨some 16, .mv (.t 5), none⟩,
  ⟨some 17, .mv (.t 1), none⟩,
  ⟨some 18, .mv (.t 6), none⟩,
  ⟨some 19, .ia 3 (.t 17) (.t 18), none⟩,
  ⟨some 20, .ld 3 true (.t 19), none⟩,
  ⟨some 21, .call (.c (.clo 126 [])) [.t 16, .t 20], none⟩,
  ⟨some 5, .mv (.t 21), none⟩]
def a73_r4 : List AOper := [⟨some 14, .mv (.t 6), none⟩,
  ⟨some 15, .bin .add (.t 14) (.c (.i .i64 1)), none⟩,
  ⟨some 6, .mv (.t 15), none⟩]
def a73_l1 : ACode := .seq (.seq (.reg a73_r3 false []) (.cond (.t 13) (.skip) (.exit 0))) (.seq (.block 1 (.reg a73_r5 false [])) (.reg a73_r4 false []))
def a73_r6 : List AOper := [⟨some 22, .mv (.t 5), none⟩,
  ⟨some 4, .mv (.t 22), none⟩]
def a73 : AFn := ⟨[false, false], .seq (.reg a73_r0 false []) (.seq (.reg a73_r1 false []) (.seq (.seq (.reg a73_r2 false []) (.block 0 (.loop [] a73_l1))) (.seq (.reg a73_r6 false []) (.ret)))), [.t 4], []⟩
theorem reads73 : readFn Try.prog Try.f73 [false, false] [] [[]] = some a73 := by kernel_rfl
-- spec.l3Pending
def a74_r0 : List AOper := [⟨some 2, .box (.t 0), none⟩,
  ⟨some 4, .mv (.c (.emp)), none⟩]
def a74_r1 : List AOper := [⟨some 7, .rowOf 3 [.i .i64 0, .i .i64 0, .i .i64 0] 0 [], none⟩,
  ⟨some 5, .mv (.t 7), none⟩]
def a74_r2 : List AOper := [⟨some 8, .fa 0 (.t 2), none⟩,
  ⟨some 9, .ld 1 false (.t 8), none⟩]
def a74_r3 : List AOper := [⟨some 10, .mv (.t 5), none⟩,
  ⟨some 4, .mv (.t 10), none⟩]
def a74_r4 : List AOper := [⟨some 11, .mv (.t 5), none⟩,
  ⟨some 12, .fa 3 (.t 2), none⟩,
  ⟨some 13, .ld 1 false (.t 12), none⟩,
  ⟨some 14, .ld 5 true (.t 2), none⟩,
  ⟨some 15, .mv (.t 1), none⟩,
  ⟨some 16, .call (.c (.clo 67 [])) [.t 14, .t 15], none⟩,
  ⟨some 17, .ia 5 (.t 13) (.t 16), none⟩,
  ⟨some 18, .ld 5 true (.t 17), none⟩,
  ⟨some 19, .mv (.t 1), none⟩,
  ⟨some 20, .call (.c (.clo 74 [])) [.t 18, .t 19], none⟩,
  ⟨some 21, .ap 3 24 (.t 11) (.t 20), none⟩,
  ⟨some 5, .mv (.t 21), none⟩]
def a74_r5 : List AOper := [⟨some 6, .mv (.c (.i .i64 0)), none⟩]
def a74_r6 : List AOper := [⟨some 22, .mv (.t 6), none⟩,
  ⟨some 23, .fa 4 (.t 2), none⟩,
  ⟨some 24, .ld 1 false (.t 23), none⟩,
  ⟨some 25, .len false (.t 24), none⟩,
  ⟨some 26, .bin .lss (.t 22) (.t 25), none⟩]
def a74_r8 : List AOper := [⟨some 29, .fa 4 (.t 2), none⟩,
  ⟨some 30, .ld 1 false (.t 29), none⟩,
  ⟨some 31, .mv (.t 6), none⟩,
  ⟨some 32, .ia 3 (.t 30) (.t 31), none⟩,
  ⟨some 33, .fa 1 (.t 32), none⟩,
  ⟨some 34, .ld 1 false (.t 33), none⟩,
  ⟨some 35, .mv (.t 1), none⟩,
  ⟨some 36, .bin .eql (.t 34) (.t 35), none⟩]
def a74_r9 : List AOper := [⟨some 37, .mv (.t 5), none⟩,
  ⟨some 38, .fa 4 (.t 2), none⟩,
  ⟨some 39, .ld 1 false (.t 38), none⟩,
  ⟨some 40, .mv (.t 6), none⟩,
  ⟨some 41, .ia 3 (.t 39) (.t 40), none⟩,
  ⟨some 42, .ld 3 true (.t 41), none⟩,
  ⟨some 43, .rowOf 3 [.i .i64 0, .i .i64 0, .i .i64 0] 1 [(0, .t 42)], none⟩,
  ⟨some 44, .ap 3 24 (.t 37) (.t 43), none⟩,
  ⟨some 5, .mv (.t 44), none⟩]
def a74_r7 : List AOper := [⟨some 27, .mv (.t 6), none⟩,
  ⟨some 28, .bin .add (.t 27) (.c (.i .i64 1)), none⟩,
  ⟨some 6, .mv (.t 28), none⟩]
def a74_l1 : ACode := .seq (.seq (.reg a74_r6 false []) (.cond (.t 26) (.skip) (.exit 0))) (.seq (.block 1 (.seq (.reg a74_r8 false []) (.cond (.t 36) (.reg a74_r9 false []) (.skip)))) (.reg a74_r7 false []))
def a74_r10 : List AOper := [⟨some 45, .mv (.t 5), none⟩,
  ⟨some 4, .mv (.t 45), none⟩]
def a74 : AFn := ⟨[false, false], .seq (.reg a74_r0 false []) (.seq (.reg a74_r1 false []) (.seq (.seq (.reg a74_r2 false []) (.cond (.t 9) (.seq (.reg a74_r3 false []) (.ret)) (.skip))) (.seq (.reg a74_r4 true [(2, 5)]) (.seq (.seq (.reg a74_r5 false []) (.block 0 (.loop [] a74_l1))) (.seq (.reg a74_r10 false []) (.ret)))))), [.t 4], []⟩
theorem reads74 : readFn Try.prog Try.f74 [false, false] [] [[]] = some a74 := by kernel_rfl
-- impl.pairAt
def a75_r0 : List AOper := [⟨some 3, .box (.t 1), none⟩,
  ⟨some 4, .mv (.c (.i .i64 0)), none⟩]
def a75_r1 : List AOper := [⟨some 5, .mv (.t 0), none⟩,
  ⟨some 6, .mf 128 [.t 3], none⟩,
  ⟨some 7, .call (.c (.clo 127 [])) [.t 5, .t 6], none⟩,
  ⟨some 4, .mv (.t 7), none⟩]
def a75 : AFn := ⟨[false, false], .seq (.reg a75_r0 false []) (.seq (.reg a75_r1 false []) (.ret)), [.t 4], []⟩
theorem reads75 : readFn Try.prog Try.f75 [false, false] [] [] = some a75 := by kernel_rfl
-- impl.treeMap
def a76_r0 : List AOper := [⟨some 1, .box (.t 0), none⟩,
  ⟨some 2, .mv (.c (.emp)), none⟩]
def a76_r1 : List AOper := [⟨some 6, .fa 0 (.t 1), none⟩,
  ⟨some 7, .ld 1 false (.t 6), none⟩]
def a76_r2 : List AOper := [⟨some 8, .rowOf 2 [.i .i64 0, .i .i64 0] 0 [], none⟩,
  ⟨some 9, .fa 1 (.t 1), none⟩,
  ⟨some 10, .ld 1 false (.t 9), none⟩,
  ⟨some 11, .ap 2 16 (.t 8) (.t 10), none⟩,
  ⟨some 2, .mv (.t 11), none⟩]
def a76_r3 : List AOper := [⟨some 12, .rowOf 2 [.i .i64 0, .i .i64 0] 0 [], none⟩,
  ⟨some 3, .mv (.t 12), none⟩]
def a76_r4 : List AOper := [⟨some 13, .fa 3 (.t 1), none⟩,
  ⟨some 14, .ld 1 false (.t 13), none⟩,
  ⟨some 15, .len false (.t 14), none⟩,
  ⟨some 16, .mv (.c (.i .i64 0)), none⟩]
def a76_r5 : List AOper := [⟨some 17, .bin .lss (.t 16) (.t 15), none⟩]
def a76_r6 : List AOper := [⟨some 18, .ia 5 (.t 14) (.t 16), none⟩,
  ⟨some 19, .ld 5 true (.t 18), none⟩,
  ⟨some 5, .new [.b false, .emp, .emp, .emp, .emp], none⟩,
  ⟨none, .st 5 (.t 5) (.t 19), none⟩]
def a76_r7 : List AOper := [⟨some 20, .mv (.t 3), none⟩,
  ⟨some 21, .ld 5 true (.t 5), none⟩,
  ⟨some 22, .call (.c (.clo 76 [])) [.t 21], none⟩,
  ⟨some 23, .ap 2 16 (.t 20) (.t 22), none⟩,
  ⟨some 3, .mv (.t 23), none⟩]
def a76_r8 : List AOper := [⟨some 24, .bin .add (.t 16) (.c (.i .i64 1)), none⟩,
  ⟨some 16, .mv (.t 24), none⟩]
def a76_l1 : ACode := .seq (.reg a76_r5 false []) (.seq (.cond (.t 17) (.skip) (.exit 0)) (.seq (.block 1 (.seq (.reg a76_r6 false []) (.reg a76_r7 false []))) (.reg a76_r8 false [])))
def a76_r9 : List AOper := [⟨some 25, .mv (.t 3), none⟩,
  ⟨some 26, .fa 4 (.t 1), none⟩,
  ⟨some 27, .ld 1 false (.t 26), none⟩,
  ⟨some 28, .call (.c (.clo 70 [])) [.t 25, .t 27], none⟩,
  ⟨some 2, .mv (.t 28), none⟩]
def a76 : AFn := ⟨[false], .seq (.reg a76_r0 false []) (.seq (.seq (.reg a76_r1 false []) (.cond (.t 7) (.seq (.reg a76_r2 false []) (.ret)) (.skip))) (.seq (.reg a76_r3 false []) (.seq (.seq (.reg a76_r4 false []) (.block 0 (.loop [] a76_l1))) (.seq (.reg a76_r9 false []) (.ret))))), [.t 2], []⟩
theorem reads76 : readFn Try.prog Try.f76 [false] [] [[]] = some a76 := by kernel_rfl
-- spec.l1Below
def a77_r0 : List AOper := [⟨some 4, .mv (.c (.i .i64 0)), none⟩]
def a77_r1 : List AOper := [⟨some 9, .mv (.t 1), none⟩,
  ⟨some 10, .bin .leq (.t 9) (.c (.i .i64 0)), none⟩]
def a77_r2 : List AOper := [⟨some 4, .mv (.c (.i .i64 0)), none⟩]
def a77_r3 : List AOper := [⟨some 11, .mv (.t 1), none⟩,
  ⟨some 12, .bin .leq (.t 11) (.c (.i .i64 256)), none⟩]
def a77_r4 : List AOper := [⟨some 13, .mv (.t 0), none⟩,
  ⟨some 14, .call (.c (.clo 129 [])) [.t 13], none⟩,
  ⟨some 15, .mv (.t 1), none⟩,
  ⟨some 16, .bin .rem (.t 14) (.t 15), none⟩,
  ⟨some 4, .mv (.t 16), none⟩]
def a77_r5 : List AOper := [⟨some 17, .mv (.t 0), none⟩,
  ⟨some 18, .call (.c (.clo 129 [])) [.t 17], none⟩,
  ⟨some 5, .mv (.t 18), none⟩]
def a77_r6 : List AOper := [⟨some 19, .mv (.t 0), none⟩,
  ⟨some 20, .call (.c (.clo 129 [])) [.t 19], none⟩,
  ⟨some 6, .mv (.t 20), none⟩]
def a77_r7 : List AOper := [⟨some 21, .mv (.t 0), none⟩,
  ⟨some 22, .call (.c (.clo 129 [])) [.t 21], none⟩,
  ⟨some 7, .mv (.t 22), none⟩]
def a77_r8 : List AOper := [⟨some 23, .mv (.t 0), none⟩,
  ⟨some 24, .call (.c (.clo 129 [])) [.t 23], none⟩,
  ⟨some 8, .mv (.t 24), none⟩]
def a77_r9 : List AOper := [⟨some 25, .mv (.t 5), none⟩,
  ⟨some 26, .bin .mul (.t 25) (.c (.i .i64 16777216)), none⟩,
  ⟨some 27, .mv (.t 6), none⟩,
  ⟨some 28, .bin .mul (.t 27) (.c (.i .i64 65536)), none⟩,
  ⟨some 29, .bin .add (.t 26) (.t 28), none⟩,
  ⟨some 30, .mv (.t 7), none⟩,
  ⟨some 31, .bin .mul (.t 30) (.c (.i .i64 256)), none⟩,
  ⟨some 32, .bin .add (.t 29) (.t 31), none⟩,
  ⟨some 33, .mv (.t 8), none⟩,
  ⟨some 34, .bin .add (.t 32) (.t 33), none⟩,
  ⟨some 35, .mv (.t 1), none⟩,
  ⟨some 36, .bin .rem (.t 34) (.t 35), none⟩,
  ⟨some 4, .mv (.t 36), none⟩]
def a77 : AFn := ⟨[true, false], .seq (.reg a77_r0 false []) (.seq (.seq (.reg a77_r1 false []) (.cond (.t 10) (.seq (.reg a77_r2 false []) (.ret)) (.skip))) (.seq (.seq (.reg a77_r3 false []) (.cond (.t 12) (.seq (.reg a77_r4 false []) (.ret)) (.skip))) (.seq (.reg a77_r5 false []) (.seq (.reg a77_r6 false []) (.seq (.reg a77_r7 false []) (.seq (.reg a77_r8 false []) (.seq (.reg a77_r9 false []) (.ret)))))))), [.t 4], []⟩
theorem reads77 : readFn Try.prog Try.f77 [true, false] [] [] = some a77 := by kernel_rfl
-- spec.l3Map
def a78_r0 : List AOper := [⟨some 1, .box (.t 0), none⟩,
  ⟨some 2, .mv (.c (.emp)), none⟩]
def a78_r1 : List AOper := [⟨some 5, .rowOf 2 [.i .i64 0, .i .i64 0] 0 [], none⟩,
  ⟨some 6, .fa 1 (.t 1), none⟩,
  ⟨some 7, .ld 1 false (.t 6), none⟩,
  ⟨some 8, .ap 2 16 (.t 5) (.t 7), none⟩,
  ⟨some 3, .mv (.t 8), none⟩]
def a78_r2 : List AOper := [⟨some 4, .mv (.c (.i .i64 0)), none⟩]
def a78_r3 : List AOper := [⟨some 9, .mv (.t 4), none⟩,
  ⟨some 10, .fa 3 (.t 1), none⟩,
  ⟨some 11, .ld 1 false (.t 10), none⟩,
  ⟨some 12, .len false (.t 11), none⟩,
  ⟨some 13, .bin .lss (.t 9) (.t 12), none⟩]
def a78_r5 : List AOper := [⟨some 16, .mv (.t 3), none⟩,
  ⟨some 17, .fa 3 (.t 1), none⟩,
  ⟨some 18, .ld 1 false (.t 17), none⟩,
  ⟨some 19, .mv (.t 4), none⟩,
  ⟨some 20, .ia 5 (.t 18) (.t 19), none⟩,
  ⟨some 21, .ld 5 true (.t 20), none⟩,
  ⟨some 22, .call (.c (.clo 78 [])) [.t 21], none⟩,
  ⟨some 23, .ap 2 16 (.t 16) (.t 22), none⟩,
  ⟨some 3, .mv (.t 23), none⟩]
def a78_r4 : List AOper := [⟨some 14, .mv (.t 4), none⟩,
  ⟨some 15, .bin .add (.t 14) (.c (.i .i64 1)), none⟩,
  ⟨some 4, .mv (.t 15), none⟩]
def a78_l1 : ACode := .seq (.seq (.reg a78_r3 false []) (.cond (.t 13) (.skip) (.exit 0))) (.seq (.block 1 (.reg a78_r5 false [])) (.reg a78_r4 false []))
def a78_r6 : List AOper := [⟨some 24, .mv (.t 3), none⟩,
  ⟨some 25, .fa 4 (.t 1), none⟩,
  ⟨some 26, .ld 1 false (.t 25), none⟩,
  ⟨some 27, .call (.c (.clo 73 [])) [.t 24, .t 26], none⟩,
  ⟨some 2, .mv (.t 27), none⟩]
def a78 : AFn := ⟨[false], .seq (.reg a78_r0 false []) (.seq (.reg a78_r1 false []) (.seq (.seq (.reg a78_r2 false []) (.block 0 (.loop [] a78_l1))) (.seq (.reg a78_r6 false []) (.ret)))), [.t 2], []⟩
theorem reads78 : readFn Try.prog Try.f78 [false] [] [[]] = some a78 := by kernel_rfl
-- impl.isKey
def a79_r0 : List AOper := [⟨some 2, .mv (.c (.b false)), none⟩]
def a79_r1 : List AOper := [⟨some 3, .mv (.t 0), none⟩,
  ⟨some 4, .call (.c (.clo 118 [])) [.t 3, .c (.i .i64 0), .c (.i .i64 999)], none⟩,
  ⟨some 2, .mv (.t 4), none⟩]
def a79 : AFn := ⟨[false], .seq (.reg a79_r0 false []) (.seq (.reg a79_r1 false []) (.ret)), [.t 2], []⟩
theorem reads79 : readFn Try.prog Try.f79 [false] [] [] = some a79 := by kernel_rfl
-- impl.isNum
def a80_r0 : List AOper := [⟨some 2, .mv (.c (.b false)), none⟩]
def a80_r1 : List AOper := [⟨some 3, .mv (.t 0), none⟩,
  ⟨some 4, .call (.c (.clo 118 [])) [.t 3, .c (.i .i64 (-1000000000)), .c (.i .i64 1000000000)], none⟩,
  ⟨some 2, .mv (.t 4), none⟩]
def a80 : AFn := ⟨[false], .seq (.reg a80_r0 false []) (.seq (.reg a80_r1 false []) (.ret)), [.t 2], []⟩
theorem reads80 : readFn Try.prog Try.f80 [false] [] [] = some a80 := by kernel_rfl
-- spec.l1In
def a85_r0 : List AOper := [⟨some 6, .mv (.c (.b false)), none⟩]
def a85_r1 : List AOper := [⟨some 7, .mv (.t 0), none⟩,
  ⟨some 8, .mv (.t 1), none⟩,
  ⟨some 9, .bin .geq (.t 7) (.t 8), none⟩,
  ⟨some 10, .mv (.t 9), none⟩,
  ⟨some 11, .mv (.t 0), some (10, true)⟩,
  ⟨some 12, .mv (.t 2), some (10, true)⟩,
  ⟨some 13, .bin .leq (.t 11) (.t 12), some (10, true)⟩,
  ⟨some 14, .pick (.t 10) (.t 13) (.c (.b false)), none⟩,
  ⟨some 6, .mv (.t 14), none⟩]
def a85 : AFn := ⟨[false, false, false], .seq (.reg a85_r0 false []) (.seq (.reg a85_r1 false []) (.ret)), [.t 6], []⟩
theorem reads85 : readFn Try.prog Try.f85 [false, false, false] [] [] = some a85 := by kernel_rfl
-- spec.l1Once
def a86_r0 : List AOper := [⟨some 4, .mv (.c (.b false)), none⟩]
def a86_r1 : List AOper := [⟨some 5, .mv (.t 0), none⟩,
  ⟨some 6, .mv (.t 1), none⟩,
  ⟨some 7, .call (.c (.clo 77 [])) [.t 5, .t 6], none⟩,
  ⟨some 8, .bin .eql (.t 7) (.c (.i .i64 0)), none⟩,
  ⟨some 4, .mv (.t 8), none⟩]
def a86 : AFn := ⟨[true, false], .seq (.reg a86_r0 false []) (.seq (.reg a86_r1 false []) (.ret)), [.t 4], []⟩
theorem reads86 : readFn Try.prog Try.f86 [true, false] [] [] = some a86 := by kernel_rfl
-- spec.l2DrawRight
def a112_r0 : List AOper := [⟨some 4, .new [.b false, .emp, .emp, .emp, .emp], none⟩]
def a112_r1 : List AOper := [⟨some 8, .call (.c (.clo 114 [])) [], none⟩,
  ⟨some 5, .new [.b false, .emp, .emp, .emp, .emp], none⟩,
  ⟨none, .st 5 (.t 5) (.t 8), none⟩]
def a112_r2 : List AOper := [⟨some 9, .mv (.t 0), none⟩,
  ⟨some 10, .mv (.t 1), none⟩,
  ⟨some 11, .call (.c (.clo 145 [])) [.t 10, .c (.i .i64 30), .c (.i .i64 90)], none⟩,
  ⟨some 12, .call (.c (.clo 77 [])) [.t 9, .t 11], none⟩,
  ⟨some 6, .mv (.t 12), none⟩]
def a112_r3 : List AOper := [⟨some 7, .mv (.c (.i .i64 0)), none⟩]
def a112_r4 : List AOper := [⟨some 13, .mv (.t 7), none⟩,
  ⟨some 14, .mv (.t 6), none⟩,
  ⟨some 15, .bin .lss (.t 13) (.t 14), none⟩]
def a112_r6 : List AOper := [⟨some 18, .ld 5 true (.t 5), none⟩,
  ⟨some 19, .mv (.t 0), none⟩,
  ⟨some 20, .call (.c (.clo 147 [])) [.t 19], none⟩,
  ⟨some 21, .call (.c (.clo 146 [])) [.t 18, .t 20], none⟩,
  ⟨none, .st 5 (.t 5) (.t 21), none⟩]
def a112_r5 : List AOper := [⟨some 16, .mv (.t 7), none⟩,
  ⟨some 17, .bin .add (.t 16) (.c (.i .i64 1)), none⟩,
  ⟨some 7, .mv (.t 17), none⟩]
def a112_l1 : ACode := .seq (.seq (.reg a112_r4 false []) (.cond (.t 15) (.skip) (.exit 0))) (.seq (.block 1 (.reg a112_r6 true [(0, 2)])) (.reg a112_r5 false []))
def a112_r7 : List AOper := [⟨some 22, .mv (.t 0), none⟩,
  ⟨some 23, .call (.c (.clo 86 [])) [.t 22, .c (.i .i64 8)], none⟩]
def a112_r8 : List AOper := [⟨some 24, .ld 5 true (.t 5), none⟩,
  ⟨some 25, .call (.c (.clo 148 [])) [.t 24], none⟩,
  ⟨none, .st 5 (.t 5) (.t 25), none⟩]
def a112_r9 : List AOper := [⟨some 26, .ld 5 true (.t 5), none⟩,
  ⟨none, .st 5 (.t 4) (.t 26), none⟩]
def a112 : AFn := ⟨[true, false], .seq (.reg a112_r0 false []) (.seq (.reg a112_r1 false []) (.seq (.reg a112_r2 false []) (.seq (.seq (.reg a112_r3 false []) (.block 0 (.loop [] a112_l1))) (.seq (.seq (.reg a112_r7 false []) (.cond (.t 23) (.reg a112_r8 false []) (.skip))) (.seq (.reg a112_r9 false []) (.ret)))))), [.cell 4 5 true], []⟩
theorem reads112 : readFn Try.prog Try.f112 [true, false] [] [[]] = some a112 := by kernel_rfl
-- spec.l1DrawBad
def a113_r0 : List AOper := [⟨some 2, .new [.i .i64 0, .i .i64 0, .i .i64 0], none⟩]
def a113_r1 : List AOper := [⟨some 4, .mv (.t 0), none⟩,
  ⟨some 5, .call (.c (.clo 147 [])) [.t 4], none⟩,
  ⟨some 3, .new [.i .i64 0, .i .i64 0, .i .i64 0], none⟩,
  ⟨none, .st 3 (.t 3) (.t 5), none⟩]
def a113_r2 : List AOper := [⟨some 6, .mv (.t 0), none⟩,
  ⟨some 7, .call (.c (.clo 77 [])) [.t 6, .c (.i .i64 15)], none⟩]
def a113_r3 : List AOper := [⟨some 9, .bin .eql (.t 7) (.c (.i .i64 0)), none⟩,
  ⟨some 8, .mv (.t 9), none⟩]
def a113_r4 : List AOper := [⟨some 10, .mv (.t 0), none⟩,
  ⟨some 11, .call (.c (.clo 77 [])) [.t 10, .c (.i .i64 7)], none⟩,
  ⟨some 12, .bin .sub (.t 11) (.c (.i .i64 1)), none⟩,
  ⟨some 13, .fa 0 (.t 3), none⟩,
  ⟨none, .st 1 (.t 13) (.t 12), none⟩]
def a113_r5 : List AOper := [⟨some 15, .bin .eql (.t 7) (.c (.i .i64 1)), none⟩,
  ⟨some 14, .mv (.t 15), none⟩]
def a113_r6 : List AOper := [⟨some 16, .mv (.t 0), none⟩,
  ⟨some 17, .rowOf 1 [.i .i64 0] 2 [(0, .c (.i .i64 (-1))), (1, .c (.i .i64 1000))], none⟩,
  ⟨some 18, .call (.c (.clo 116 [])) [.t 16, .t 17], none⟩,
  ⟨some 19, .fa 1 (.t 3), none⟩,
  ⟨none, .st 1 (.t 19) (.t 18), none⟩]
def a113_r7 : List AOper := [⟨some 21, .bin .eql (.t 7) (.c (.i .i64 2)), none⟩,
  ⟨some 20, .mv (.t 21), none⟩]
def a113_r8 : List AOper := [⟨some 22, .mv (.t 0), none⟩,
  ⟨some 23, .rowOf 1 [.i .i64 0] 2 [(0, .c (.i .i64 1000000001)), (1, .c (.i .i64 3))], none⟩,
  ⟨some 24, .call (.c (.clo 116 [])) [.t 22, .t 23], none⟩,
  ⟨some 25, .fa 2 (.t 3), none⟩,
  ⟨none, .st 1 (.t 25) (.t 24), none⟩]
def a113_r9 : List AOper := [⟨some 26, .ld 3 true (.t 3), none⟩,
  ⟨none, .st 3 (.t 2) (.t 26), none⟩]
def a113 : AFn := ⟨[true], .seq (.reg a113_r0 false []) (.seq (.reg a113_r1 false []) (.seq (.seq (.reg a113_r2 false []) (.block 0 (.seq (.reg a113_r3 false []) (.cond (.t 8) (.reg a113_r4 false []) (.seq (.reg a113_r5 false []) (.cond (.t 14) (.reg a113_r6 false []) (.seq (.reg a113_r7 false []) (.cond (.t 20) (.reg a113_r8 false []) (.skip))))))))) (.seq (.reg a113_r9 false []) (.ret)))), [.cell 2 3 true], []⟩
theorem reads113 : readFn Try.prog Try.f113 [true] [] [] = some a113 := by kernel_rfl
-- spec.TreeNew
def a114_r0 : List AOper := [⟨some 0, .new [.b false, .emp, .emp, .emp, .emp], none⟩]
def a114_r1 : List AOper := [⟨some 1, .build [.b false, .emp, .emp, .emp, .emp] [(0, 1, .c (.b true))], none⟩,
  ⟨none, .st 5 (.t 0) (.t 1), none⟩]
def a114 : AFn := ⟨[], .seq (.reg a114_r0 false []) (.seq (.reg a114_r1 false []) (.ret)), [.cell 0 5 true], []⟩
theorem reads114 : readFn Try.prog Try.f114 [] [] [] = some a114 := by kernel_rfl
-- spec.l2Copy
def a115_r0 : List AOper := [⟨some 1, .box (.t 0), none⟩,
  ⟨some 2, .new [.b false, .emp, .emp, .emp, .emp], none⟩]
def a115_r1 : List AOper := [⟨some 5, .fa 0 (.t 1), none⟩,
  ⟨some 6, .ld 1 false (.t 5), none⟩,
  ⟨some 7, .rowOf 2 [.i .i64 0, .i .i64 0] 0 [], none⟩,
  ⟨some 8, .fa 1 (.t 1), none⟩,
  ⟨some 9, .ld 1 false (.t 8), none⟩,
  ⟨some 10, .ap 2 16 (.t 7) (.t 9), none⟩,
  ⟨some 11, .rowOf 1 [.i .i64 0] 0 [], none⟩,
  ⟨some 12, .fa 2 (.t 1), none⟩,
  ⟨some 13, .ld 1 false (.t 12), none⟩,
  ⟨some 14, .ap 1 8 (.t 11) (.t 13), none⟩,
  ⟨some 15, .rowOf 3 [.i .i64 0, .i .i64 0, .i .i64 0] 0 [], none⟩,
  ⟨some 16, .fa 4 (.t 1), none⟩,
  ⟨some 17, .ld 1 false (.t 16), none⟩,
  ⟨some 18, .ap 3 24 (.t 15) (.t 17), none⟩,
  ⟨some 19, .build [.b false, .emp, .emp, .emp, .emp] [(0, 1, .t 6), (1, 1, .t 10), (2, 1, .t 14), (4, 1, .t 18)], none⟩,
  ⟨some 3, .new [.b false, .emp, .emp, .emp, .emp], none⟩,
  ⟨none, .st 5 (.t 3) (.t 19), none⟩]
def a115_r2 : List AOper := [⟨some 4, .mv (.c (.i .i64 0)), none⟩]
def a115_r3 : List AOper := [⟨some 20, .mv (.t 4), none⟩,
  ⟨some 21, .fa 3 (.t 1), none⟩,
  ⟨some 22, .ld 1 false (.t 21), none⟩,
  ⟨some 23, .len false (.t 22), none⟩,
  ⟨some 24, .bin .lss (.t 20) (.t 23), none⟩]
def a115_r5 : List AOper := [⟨some 27, .fa 3 (.t 3), none⟩,
  ⟨some 28, .ld 1 false (.t 27), none⟩,
  ⟨some 29, .fa 3 (.t 1), none⟩,
  ⟨some 30, .ld 1 false (.t 29), none⟩,
  ⟨some 31, .mv (.t 4), none⟩,
  ⟨some 32, .ia 5 (.t 30) (.t 31), none⟩,
  ⟨some 33, .ld 5 true (.t 32), none⟩,
  ⟨some 34, .call (.c (.clo 115 [])) [.t 33], none⟩,
  ⟨some 35, .rowOf 5 [.b false, .emp, .emp, .emp, .emp] 1 [(0, .t 34)], none⟩,
  ⟨some 36, .ap 5 104 (.t 28) (.t 35), none⟩,
  ⟨some 37, .fa 3 (.t 3), none⟩,
  ⟨none, .st 1 (.t 37) (.t 36), none⟩]
def a115_r4 : List AOper := [⟨some 25, .mv (.t 4), none⟩,
  ⟨some 26, .bin .add (.t 25) (.c (.i .i64 1)), none⟩,
  ⟨some 4, .mv (.t 26), none⟩]
def a115_l1 : ACode := .seq (.seq (.reg a115_r3 false []) (.cond (.t 24) (.skip) (.exit 0))) (.seq (.block 1 (.reg a115_r5 true [(1, 7), (1, 8)])) (.reg a115_r4 false []))
def a115_r6 : List AOper := [⟨some 38, .ld 5 true (.t 3), none⟩,
  ⟨none, .st 5 (.t 2) (.t 38), none⟩]
def a115 : AFn := ⟨[false], .seq (.reg a115_r0 false []) (.seq (.reg a115_r1 true [(1, 2), (2, 4), (1, 5), (1, 6), (2, 6), (4, 6), (5, 6), (2, 8), (5, 8), (6, 8), (1, 9), (1, 10), (2, 10), (4, 10), (5, 10), (6, 10), (8, 10), (9, 10), (2, 12), (5, 12), (6, 12), (9, 12), (10, 12), (1, 13), (1, 15), (2, 15), (4, 15), (5, 15), (6, 15), (8, 15), (9, 15), (10, 15), (12, 15), (13, 15)]) (.seq (.seq (.reg a115_r2 false []) (.block 0 (.loop [] a115_l1))) (.seq (.reg a115_r6 false []) (.ret)))), [.cell 2 5 true], []⟩
theorem reads115 : readFn Try.prog Try.f115 [false] [] [[]] = some a115 := by kernel_rfl
-- spec.l1PickInt
def a116_r0 : List AOper := [⟨some 4, .mv (.c (.i .i64 0)), none⟩]
def a116_r1 : List AOper := [⟨some 5, .mv (.t 1), none⟩,
  ⟨some 6, .mv (.t 0), none⟩,
  ⟨some 7, .mv (.t 1), none⟩,
  ⟨some 8, .len false (.t 7), none⟩,
  ⟨some 9, .call (.c (.clo 77 [])) [.t 6, .t 8], none⟩,
  ⟨some 10, .ia 1 (.t 5) (.t 9), none⟩,
  ⟨some 11, .ld 1 false (.t 10), none⟩,
  ⟨some 4, .mv (.t 11), none⟩]
def a116 : AFn := ⟨[true, false], .seq (.reg a116_r0 false []) (.seq (.reg a116_r1 false []) (.ret)), [.t 4], []⟩
theorem reads116 : readFn Try.prog Try.f116 [true, false] [] [] = some a116 := by kernel_rfl
-- impl.leafOk
def a117_r0 : List AOper := [⟨some 3, .box (.t 0), none⟩,
  ⟨some 4, .box (.t 1), none⟩,
  ⟨some 5, .box (.t 2), none⟩,
  ⟨some 6, .mv (.c (.b false)), none⟩]
def a117_r1 : List AOper := [⟨some 7, .fa 1 (.t 3), none⟩,
  ⟨some 8, .ld 1 false (.t 7), none⟩,
  ⟨some 9, .call (.c (.clo 33 [])) [.t 8], none⟩,
  ⟨some 10, .un .not (.t 9), none⟩,
  ⟨some 11, .mv (.t 10), none⟩,
  ⟨some 12, .fa 1 (.t 3), some (11, false)⟩,
  ⟨some 13, .ld 1 false (.t 12), some (11, false)⟩,
  ⟨some 14, .len false (.t 13), some (11, false)⟩,
  ⟨some 15, .bin .gtr (.t 14) (.c (.i .i64 4)), some (11, false)⟩,
  ⟨some 16, .pick (.t 11) (.c (.b true)) (.t 15), none⟩,
  ⟨some 17, .mv (.t 16), none⟩,
  ⟨some 18, .fa 2 (.t 3), some (17, false)⟩,
  ⟨some 19, .ld 1 false (.t 18), some (17, false)⟩,
  ⟨some 20, .len false (.t 19), some (17, false)⟩,
  ⟨some 21, .bin .gtr (.t 20) (.c (.i .i64 0)), some (17, false)⟩,
  ⟨some 22, .pick (.t 17) (.c (.b true)) (.t 21), none⟩,
  ⟨some 23, .mv (.t 22), none⟩,
  ⟨some 24, .fa 3 (.t 3), some (23, false)⟩,
  ⟨some 25, .ld 1 false (.t 24), some (23, false)⟩,
  ⟨some 26, .len false (.t 25), some (23, false)⟩,
  ⟨some 27, .bin .gtr (.t 26) (.c (.i .i64 0)), some (23, false)⟩,
  ⟨some 28, .pick (.t 23) (.c (.b true)) (.t 27), none⟩,
  ⟨some 29, .mv (.t 28), none⟩,
  ⟨some 30, .fa 4 (.t 3), some (29, false)⟩,
  ⟨some 31, .ld 1 false (.t 30), some (29, false)⟩,
  ⟨some 32, .len false (.t 31), some (29, false)⟩,
  ⟨some 33, .bin .gtr (.t 32) (.c (.i .i64 0)), some (29, false)⟩,
  ⟨some 34, .pick (.t 29) (.c (.b true)) (.t 33), none⟩]
def a117_r2 : List AOper := [⟨some 6, .mv (.c (.b false)), none⟩]
def a117_r3 : List AOper := [⟨some 35, .fa 1 (.t 3), none⟩,
  ⟨some 36, .ld 1 false (.t 35), none⟩,
  ⟨some 37, .mf 150 [.t 4, .t 5], none⟩,
  ⟨some 38, .call (.c (.clo 149 [])) [.t 36, .t 37], none⟩,
  ⟨some 39, .un .not (.t 38), none⟩,
  ⟨some 6, .mv (.t 39), none⟩]
def a117 : AFn := ⟨[false, false, false], .seq (.reg a117_r0 false []) (.seq (.seq (.reg a117_r1 false []) (.cond (.t 34) (.seq (.reg a117_r2 false []) (.ret)) (.skip))) (.seq (.reg a117_r3 false []) (.ret))), [.t 6], []⟩
theorem reads117 : readFn Try.prog Try.f117 [false, false, false] [] [] = some a117 := by kernel_rfl
-- impl.within
def a118_r0 : List AOper := [⟨some 6, .mv (.c (.b false)), none⟩]
def a118_r1 : List AOper := [⟨some 7, .mv (.t 0), none⟩,
  ⟨some 8, .mv (.t 1), none⟩,
  ⟨some 9, .bin .geq (.t 7) (.t 8), none⟩,
  ⟨some 10, .mv (.t 9), none⟩,
  ⟨some 11, .mv (.t 0), some (10, true)⟩,
  ⟨some 12, .mv (.t 2), some (10, true)⟩,
  ⟨some 13, .bin .leq (.t 11) (.t 12), some (10, true)⟩,
  ⟨some 14, .pick (.t 10) (.t 13) (.c (.b false)), none⟩,
  ⟨some 6, .mv (.t 14), none⟩]
def a118 : AFn := ⟨[false, false, false], .seq (.reg a118_r0 false []) (.seq (.reg a118_r1 false []) (.ret)), [.t 6], []⟩
theorem reads118 : readFn Try.prog Try.f118 [false, false, false] [] [] = some a118 := by kernel_rfl
-- slices.ContainsFunc[[]impl.Msg,impl.Msg]
def a119_r0 : List AOper := [⟨some 4, .mv (.c (.b false)), none⟩]
def a119_r1 : List AOper := [⟨some 5, .mv (.t 0), none⟩,
  ⟨some 6, .mv (.t 1), none⟩,
  ⟨some 7, .call (.c (.clo 151 [])) [.t 5, .t 6], none⟩,
  ⟨some 8, .bin .geq (.t 7) (.c (.i .i64 0)), none⟩,
  ⟨some 4, .mv (.t 8), none⟩]
def a119 : AFn := ⟨[false, false], .seq (.reg a119_r0 false []) (.seq (.reg a119_r1 false []) (.ret)), [.t 4], []⟩
theorem reads119 : readFn Try.prog Try.f119 [false, false] [] [] = some a119 := by kernel_rfl
-- impl.depthOf$1
def a120_r0 : List AOper := [⟨some 3, .box (.t 0), none⟩,
  ⟨some 4, .mv (.c (.b false)), none⟩]
def a120_r1 : List AOper := [⟨some 5, .ld 3 true (.t 3), none⟩,
  ⟨some 6, .call (.c (.clo 121 [])) [.t 5], none⟩,
  ⟨some 7, .un .not (.t 6), none⟩,
  ⟨some 8, .mv (.t 7), none⟩,
  ⟨some 9, .fa 0 (.t 3), some (8, false)⟩,
  ⟨some 10, .ld 1 false (.t 9), some (8, false)⟩,
  ⟨some 11, .bin .eql (.t 10) (.c (.i .i64 4)), some (8, false)⟩,
  ⟨some 12, .pick (.t 8) (.c (.b true)) (.t 11), none⟩,
  ⟨some 13, .mv (.t 12), none⟩,
  ⟨some 14, .fa 1 (.t 3), some (13, false)⟩,
  ⟨some 15, .ld 1 false (.t 14), some (13, false)⟩,
  ⟨some 16, .ld 1 false (.t 1), some (13, false)⟩,
  ⟨some 17, .ld 1 false (.t 2), some (13, false)⟩,
  ⟨some 18, .bin .sub (.t 17) (.c (.i .i64 1)), some (13, false)⟩,
  ⟨some 19, .call (.c (.clo 118 [])) [.t 15, .t 16, .t 18], some (13, false)⟩,
  ⟨some 20, .un .not (.t 19), some (13, false)⟩,
  ⟨some 21, .pick (.t 13) (.c (.b true)) (.t 20), none⟩,
  ⟨some 4, .mv (.t 21), none⟩]
def a120 : AFn := ⟨[false, false, false], .seq (.reg a120_r0 false []) (.seq (.reg a120_r1 false []) (.ret)), [.t 4], []⟩
theorem reads120 : readFn Try.prog Try.f120 [false, false, false] [] [] = some a120 := by kernel_rfl
-- impl.MsgOk
def a121_r0 : List AOper := [⟨some 1, .box (.t 0), none⟩,
  ⟨some 2, .mv (.c (.b false)), none⟩]
def a121_r1 : List AOper := [⟨some 3, .fa 1 (.t 1), none⟩,
  ⟨some 4, .ld 1 false (.t 3), none⟩,
  ⟨some 5, .call (.c (.clo 79 [])) [.t 4], none⟩,
  ⟨some 6, .un .not (.t 5), none⟩]
def a121_r2 : List AOper := [⟨some 2, .mv (.c (.b false)), none⟩]
def a121_r3 : List AOper := [⟨some 7, .fa 0 (.t 1), none⟩,
  ⟨some 8, .ld 1 false (.t 7), none⟩]
def a121_r4 : List AOper := [⟨some 10, .bin .eql (.t 8) (.c (.i .i64 1)), none⟩,
  ⟨some 9, .mv (.t 10), none⟩]
def a121_r5 : List AOper := [⟨some 11, .bin .eql (.t 8) (.c (.i .i64 3)), none⟩,
  ⟨some 9, .mv (.t 11), none⟩]
def a121_r6 : List AOper := [⟨some 12, .fa 2 (.t 1), none⟩,
  ⟨some 13, .ld 1 false (.t 12), none⟩,
  ⟨some 14, .call (.c (.clo 80 [])) [.t 13], none⟩,
  ⟨some 2, .mv (.t 14), none⟩]
def a121_r7 : List AOper := [⟨some 16, .bin .eql (.t 8) (.c (.i .i64 2)), none⟩,
  ⟨some 15, .mv (.t 16), none⟩]
def a121_r8 : List AOper := [⟨some 17, .bin .eql (.t 8) (.c (.i .i64 4)), none⟩,
  ⟨some 15, .mv (.t 17), none⟩]
def a121_r9 : List AOper := [⟨some 18, .fa 2 (.t 1), none⟩,
  ⟨some 19, .ld 1 false (.t 18), none⟩,
  ⟨some 20, .bin .eql (.t 19) (.c (.i .i64 0)), none⟩,
  ⟨some 2, .mv (.t 20), none⟩]
def a121_r10 : List AOper := [⟨some 2, .mv (.c (.b false)), none⟩]
def a121 : AFn := ⟨[false], .seq (.reg a121_r0 false []) (.seq (.seq (.reg a121_r1 false []) (.cond (.t 6) (.seq (.reg a121_r2 false []) (.ret)) (.skip))) (.seq (.seq (.reg a121_r3 false []) (.block 0 (.seq (.seq (.reg a121_r4 false []) (.cond (.t 9) (.skip) (.reg a121_r5 false []))) (.cond (.t 9) (.seq (.reg a121_r6 false []) (.ret)) (.seq (.seq (.reg a121_r7 false []) (.cond (.t 15) (.skip) (.reg a121_r8 false []))) (.cond (.t 15) (.seq (.reg a121_r9 false []) (.ret)) (.skip))))))) (.seq (.reg a121_r10 false []) (.ret)))), [.t 2], []⟩
theorem reads121 : readFn Try.prog Try.f121 [false] [] [] = some a121 := by kernel_rfl
-- spec.l2Leaf
def a122_r0 : List AOper := [⟨some 3, .box (.t 0), none⟩,
  ⟨some 6, .mv (.c (.i .i64 0)), none⟩]
def a122_r1 : List AOper := [⟨some 8, .fa 1 (.t 3), none⟩,
  ⟨some 9, .ld 1 false (.t 8), none⟩,
  ⟨some 10, .call (.c (.clo 152 [])) [.t 9], none⟩,
  ⟨some 11, .un .not (.t 10), none⟩,
  ⟨some 12, .mv (.t 11), none⟩,
  ⟨some 13, .fa 1 (.t 3), some (12, false)⟩,
  ⟨some 14, .ld 1 false (.t 13), some (12, false)⟩,
  ⟨some 15, .len false (.t 14), some (12, false)⟩,
  ⟨some 16, .bin .gtr (.t 15) (.c (.i .i64 4)), some (12, false)⟩,
  ⟨some 17, .pick (.t 12) (.c (.b true)) (.t 16), none⟩,
  ⟨some 18, .mv (.t 17), none⟩,
  ⟨some 19, .fa 2 (.t 3), some (18, false)⟩,
  ⟨some 20, .ld 1 false (.t 19), some (18, false)⟩,
  ⟨some 21, .len false (.t 20), some (18, false)⟩,
  ⟨some 22, .fa 3 (.t 3), some (18, false)⟩,
  ⟨some 23, .ld 1 false (.t 22), some (18, false)⟩,
  ⟨some 24, .len false (.t 23), some (18, false)⟩,
  ⟨some 25, .bin .add (.t 21) (.t 24), some (18, false)⟩,
  ⟨some 26, .fa 4 (.t 3), some (18, false)⟩,
  ⟨some 27, .ld 1 false (.t 26), some (18, false)⟩,
  ⟨some 28, .len false (.t 27), some (18, false)⟩,
  ⟨some 29, .bin .add (.t 25) (.t 28), some (18, false)⟩,
  ⟨some 30, .bin .gtr (.t 29) (.c (.i .i64 0)), some (18, false)⟩,
  ⟨some 31, .pick (.t 18) (.c (.b true)) (.t 30), none⟩]
def a122_r2 : List AOper := [⟨some 6, .mv (.c (.i .i64 0)), none⟩]
def a122_r3 : List AOper := [⟨some 7, .mv (.c (.i .i64 0)), none⟩]
def a122_r4 : List AOper := [⟨some 32, .mv (.t 7), none⟩,
  ⟨some 33, .fa 1 (.t 3), none⟩,
  ⟨some 34, .ld 1 false (.t 33), none⟩,
  ⟨some 35, .len false (.t 34), none⟩,
  ⟨some 36, .bin .lss (.t 32) (.t 35), none⟩]
def a122_r6 : List AOper := [⟨some 39, .fa 1 (.t 3), none⟩,
  ⟨some 40, .ld 1 false (.t 39), none⟩,
  ⟨some 41, .mv (.t 7), none⟩,
  ⟨some 42, .ia 2 (.t 40) (.t 41), none⟩,
  ⟨some 43, .fa 0 (.t 42), none⟩,
  ⟨some 44, .ld 1 false (.t 43), none⟩,
  ⟨some 45, .mv (.t 1), none⟩,
  ⟨some 46, .mv (.t 2), none⟩,
  ⟨some 47, .bin .sub (.t 46) (.c (.i .i64 1)), none⟩,
  ⟨some 48, .call (.c (.clo 85 [])) [.t 44, .t 45, .t 47], none⟩,
  ⟨some 49, .un .not (.t 48), none⟩]
def a122_r7 : List AOper := [⟨some 6, .mv (.c (.i .i64 0)), none⟩]
def a122_r5 : List AOper := [⟨some 37, .mv (.t 7), none⟩,
  ⟨some 38, .bin .add (.t 37) (.c (.i .i64 1)), none⟩,
  ⟨some 7, .mv (.t 38), none⟩]
def a122_l1 : ACode := .seq (.seq (.reg a122_r4 false []) (.cond (.t 36) (.skip) (.exit 0))) (.seq (.block 1 (.seq (.reg a122_r6 false []) (.cond (.t 49) (.seq (.reg a122_r7 false []) (.ret)) (.skip)))) (.reg a122_r5 false []))
def a122_r8 : List AOper := [⟨some 6, .mv (.c (.i .i64 1)), none⟩]
def a122 : AFn := ⟨[false, false, false], .seq (.reg a122_r0 false []) (.seq (.seq (.reg a122_r1 false []) (.cond (.t 31) (.seq (.reg a122_r2 false []) (.ret)) (.skip))) (.seq (.seq (.reg a122_r3 false []) (.block 0 (.loop [] a122_l1))) (.seq (.reg a122_r8 false []) (.ret)))), [.t 6], []⟩
theorem reads122 : readFn Try.prog Try.f122 [false, false, false] [] [[]] = some a122 := by kernel_rfl
-- spec.MsgOk
def a123_r0 : List AOper := [⟨some 1, .box (.t 0), none⟩,
  ⟨some 2, .mv (.c (.b false)), none⟩]
def a123_r1 : List AOper := [⟨some 3, .fa 0 (.t 1), none⟩,
  ⟨some 4, .ld 1 false (.t 3), none⟩,
  ⟨some 5, .call (.c (.clo 85 [])) [.t 4, .c (.i .i64 1), .c (.i .i64 4)], none⟩,
  ⟨some 6, .un .not (.t 5), none⟩,
  ⟨some 7, .mv (.t 6), none⟩,
  ⟨some 8, .fa 1 (.t 1), some (7, false)⟩,
  ⟨some 9, .ld 1 false (.t 8), some (7, false)⟩,
  ⟨some 10, .call (.c (.clo 85 [])) [.t 9, .c (.i .i64 0), .c (.i .i64 999)], some (7, false)⟩,
  ⟨some 11, .un .not (.t 10), some (7, false)⟩,
  ⟨some 12, .pick (.t 7) (.c (.b true)) (.t 11), none⟩,
  ⟨some 13, .mv (.t 12), none⟩,
  ⟨some 14, .fa 2 (.t 1), some (13, false)⟩,
  ⟨some 15, .ld 1 false (.t 14), some (13, false)⟩,
  ⟨some 16, .call (.c (.clo 153 [])) [.t 15], some (13, false)⟩,
  ⟨some 17, .un .not (.t 16), some (13, false)⟩,
  ⟨some 18, .pick (.t 13) (.c (.b true)) (.t 17), none⟩]
def a123_r2 : List AOper := [⟨some 2, .mv (.c (.b false)), none⟩]
def a123_r3 : List AOper := [⟨some 19, .fa 2 (.t 1), none⟩,
  ⟨some 20, .ld 1 false (.t 19), none⟩,
  ⟨some 21, .bin .eql (.t 20) (.c (.i .i64 0)), none⟩,
  ⟨some 22, .mv (.t 21), none⟩,
  ⟨some 23, .fa 0 (.t 1), some (22, false)⟩,
  ⟨some 24, .ld 1 false (.t 23), some (22, false)⟩,
  ⟨some 25, .bin .eql (.t 24) (.c (.i .i64 1)), some (22, false)⟩,
  ⟨some 26, .pick (.t 22) (.c (.b true)) (.t 25), none⟩,
  ⟨some 27, .mv (.t 26), none⟩,
  ⟨some 28, .fa 0 (.t 1), some (27, false)⟩,
  ⟨some 29, .ld 1 false (.t 28), some (27, false)⟩,
  ⟨some 30, .bin .eql (.t 29) (.c (.i .i64 3)), some (27, false)⟩,
  ⟨some 31, .pick (.t 27) (.c (.b true)) (.t 30), none⟩,
  ⟨some 2, .mv (.t 31), none⟩]
def a123 : AFn := ⟨[false], .seq (.reg a123_r0 false []) (.seq (.seq (.reg a123_r1 false []) (.cond (.t 18) (.seq (.reg a123_r2 false []) (.ret)) (.skip))) (.seq (.reg a123_r3 false []) (.ret))), [.t 2], []⟩
theorem reads123 : readFn Try.prog Try.f123 [false] [] [] = some a123 := by kernel_rfl
-- slices.Clone[[]impl.Pair,impl.Pair]
def a124_r0 : List AOper := [⟨some 2, .mv (.c (.emp)), none⟩]
def a124_r1 : List AOper := [⟨some 3, .mv (.t 0), none⟩,
  ⟨some 4, .eqn false (.t 3), none⟩]
def a124_r2 : List AOper := [⟨some 2, .mv (.c (.emp)), none⟩]
def a124_r3 : List AOper := [⟨some 5, .rowOf 2 [.i .i64 0, .i .i64 0] 0 [], none⟩,
  ⟨some 6, .mv (.t 0), none⟩,
  ⟨some 7, .ap 2 16 (.t 5) (.t 6), none⟩,
  ⟨some 2, .mv (.t 7), none⟩]
def a124 : AFn := ⟨[false], .seq (.reg a124_r0 false []) (.seq (.seq (.reg a124_r1 false []) (.cond (.t 4) (.seq (.reg a124_r2 false []) (.ret)) (.skip))) (.seq (.reg a124_r3 false []) (.ret))), [.t 2], []⟩
theorem reads124 : readFn Try.prog Try.f124 [false] [] [] = some a124 := by kernel_rfl
-- impl.changed
def a125_r0 : List AOper := [⟨some 3, .box (.t 1), none⟩,
  ⟨some 4, .mv (.c (.emp)), none⟩]
def a125_r1 : List AOper := [⟨some 9, .mv (.t 0), none⟩,
  ⟨some 10, .fa 1 (.t 3), none⟩,
  ⟨some 11, .ld 1 false (.t 10), none⟩,
  ⟨some 12, .call (.c (.clo 154 [])) [.t 9, .t 11, .c (.clo 155 [])], none⟩,
  ⟨some 8, .mv (.t 12), none⟩,
  ⟨some 13, .ex (.t 8) 0, none⟩,
  ⟨some 14, .ex (.t 8) 1, none⟩,
  ⟨some 5, .mv (.t 13), none⟩,
  ⟨some 6, .mv (.t 14), none⟩]
def a125_r2 : List AOper := [⟨some 15, .fa 2 (.t 3), none⟩,
  ⟨some 16, .ld 1 false (.t 15), none⟩,
  ⟨some 7, .mv (.t 16), none⟩]
def a125_r3 : List AOper := [⟨some 18, .fa 0 (.t 3), none⟩,
  ⟨some 19, .ld 1 false (.t 18), none⟩,
  ⟨some 20, .bin .eql (.t 19) (.c (.i .i64 4)), none⟩,
  ⟨some 17, .mv (.t 20), none⟩]
def a125_r4 : List AOper := [⟨some 21, .mv (.t 0), none⟩,
  ⟨some 4, .mv (.t 21), none⟩]
def a125_r5 : List AOper := [⟨some 23, .fa 0 (.t 3), none⟩,
  ⟨some 24, .ld 1 false (.t 23), none⟩,
  ⟨some 25, .bin .eql (.t 24) (.c (.i .i64 2)), none⟩,
  ⟨some 26, .mv (.t 25), none⟩,
  ⟨some 27, .mv (.t 6), some (26, true)⟩,
  ⟨some 28, .pick (.t 26) (.t 27) (.c (.b false)), none⟩,
  ⟨some 22, .mv (.t 28), none⟩]
def a125_r6 : List AOper := [⟨some 29, .mv (.t 0), none⟩,
  ⟨some 30, .mv (.t 5), none⟩,
  ⟨some 31, .mv (.t 5), none⟩,
  ⟨some 32, .bin .add (.t 31) (.c (.i .i64 1)), none⟩,
  ⟨some 33, .call (.c (.clo 156 [])) [.t 29, .t 30, .t 32], none⟩,
  ⟨some 4, .mv (.t 33), none⟩]
def a125_r7 : List AOper := [⟨some 35, .fa 0 (.t 3), none⟩,
  ⟨some 36, .ld 1 false (.t 35), none⟩,
  ⟨some 37, .bin .eql (.t 36) (.c (.i .i64 2)), none⟩,
  ⟨some 34, .mv (.t 37), none⟩]
def a125_r8 : List AOper := [⟨some 38, .mv (.t 0), none⟩,
  ⟨some 4, .mv (.t 38), none⟩]
def a125_r9 : List AOper := [⟨some 40, .fa 0 (.t 3), none⟩,
  ⟨some 41, .ld 1 false (.t 40), none⟩,
  ⟨some 42, .bin .eql (.t 41) (.c (.i .i64 3)), none⟩,
  ⟨some 43, .mv (.t 42), none⟩,
  ⟨some 44, .mv (.t 6), some (43, true)⟩,
  ⟨some 45, .pick (.t 43) (.t 44) (.c (.b false)), none⟩,
  ⟨some 39, .mv (.t 45), none⟩]
def a125_r10 : List AOper := [⟨some 46, .mv (.t 0), none⟩,
  ⟨some 47, .mv (.t 5), none⟩,
  ⟨some 48, .ia 2 (.t 46) (.t 47), none⟩,
  ⟨some 49, .fa 1 (.t 48), none⟩,
  ⟨some 50, .ld 1 false (.t 49), none⟩,
  ⟨some 51, .fa 2 (.t 3), none⟩,
  ⟨some 52, .ld 1 false (.t 51), none⟩,
  ⟨some 53, .bin .add (.t 50) (.t 52), none⟩,
  ⟨some 54, .call (.c (.clo 157 [])) [.t 53], none⟩,
  ⟨some 7, .mv (.t 54), none⟩]
def a125_r11 : List AOper := [⟨some 55, .mv (.t 6), none⟩]
def a125_r12 : List AOper := [⟨some 56, .mv (.t 0), none⟩,
  ⟨some 57, .mv (.t 5), none⟩,
  ⟨some 58, .mv (.t 7), none⟩,
  ⟨some 59, .ia 2 (.t 56) (.t 57), none⟩,
  ⟨some 60, .fa 1 (.t 59), none⟩,
  ⟨none, .st 1 (.t 60) (.t 58), none⟩]
def a125_r13 : List AOper := [⟨some 61, .mv (.t 0), none⟩,
  ⟨some 4, .mv (.t 61), none⟩]
def a125_r14 : List AOper := [⟨some 62, .mv (.t 0), none⟩,
  ⟨some 63, .mv (.t 5), none⟩,
  ⟨some 64, .fa 1 (.t 3), none⟩,
  ⟨some 65, .ld 1 false (.t 64), none⟩,
  ⟨some 66, .mv (.t 7), none⟩,
  ⟨some 67, .build [.i .i64 0, .i .i64 0] [(0, 1, .t 65), (1, 1, .t 66)], none⟩,
  ⟨some 68, .rowOf 2 [.i .i64 0, .i .i64 0] 1 [(0, .t 67)], none⟩,
  ⟨some 69, .call (.c (.clo 158 [])) [.t 62, .t 63, .t 68], none⟩,
  ⟨some 4, .mv (.t 69), none⟩]
def a125 : AFn := ⟨[true, false], .seq (.reg a125_r0 false []) (.seq (.reg a125_r1 false []) (.seq (.reg a125_r2 false []) (.seq (.block 0 (.seq (.reg a125_r3 false []) (.cond (.t 17) (.seq (.reg a125_r4 false []) (.ret)) (.seq (.reg a125_r5 false []) (.cond (.t 22) (.seq (.reg a125_r6 false []) (.ret)) (.seq (.reg a125_r7 false []) (.cond (.t 34) (.seq (.reg a125_r8 false []) (.ret)) (.seq (.reg a125_r9 false []) (.cond (.t 39) (.reg a125_r10 true []) (.skip)))))))))) (.seq (.seq (.reg a125_r11 false []) (.cond (.t 55) (.seq (.reg a125_r12 false []) (.seq (.reg a125_r13 false []) (.ret))) (.skip))) (.seq (.reg a125_r14 false []) (.ret)))))), [.t 4], []⟩
theorem reads125 : readFn Try.prog Try.f125 [true, false] [] [] = some a125 := by kernel_rfl
-- spec.MapDo
def a126_r0 : List AOper := [⟨some 3, .box (.t 1), none⟩,
  ⟨some 4, .mv (.c (.emp)), none⟩]
def a126_r1 : List AOper := [⟨some 7, .mv (.t 0), none⟩,
  ⟨some 8, .call (.c (.clo 152 [])) [.t 7], none⟩,
  ⟨some 9, .un .not (.t 8), none⟩,
  ⟨some 10, .mv (.t 9), none⟩,
  ⟨some 11, .ld 3 true (.t 3), some (10, false)⟩,
  ⟨some 12, .call (.c (.clo 123 [])) [.t 11], some (10, false)⟩,
  ⟨some 13, .un .not (.t 12), some (10, false)⟩,
  ⟨some 14, .pick (.t 10) (.c (.b true)) (.t 13), none⟩]
def a126_r2 : List AOper := [⟨some 15, .rowOf 2 [.i .i64 0, .i .i64 0] 0 [], none⟩,
  ⟨some 16, .mv (.t 0), none⟩,
  ⟨some 17, .ap 2 16 (.t 15) (.t 16), none⟩,
  ⟨some 4, .mv (.t 17), none⟩]
def a126_r3 : List AOper := [⟨some 19, .mv (.t 0), none⟩,
  ⟨some 20, .fa 1 (.t 3), none⟩,
  ⟨some 21, .ld 1 false (.t 20), none⟩,
  ⟨some 22, .call (.c (.clo 72 [])) [.t 19, .t 21], none⟩,
  ⟨some 18, .mv (.t 22), none⟩,
  ⟨some 23, .ex (.t 18) 0, none⟩,
  ⟨some 24, .ex (.t 18) 1, none⟩,
  ⟨some 5, .mv (.t 23), none⟩,
  ⟨some 6, .mv (.t 24), none⟩]
def a126_r4 : List AOper := [⟨some 25, .fa 0 (.t 3), none⟩,
  ⟨some 26, .ld 1 false (.t 25), none⟩]
def a126_r5 : List AOper := [⟨some 28, .bin .eql (.t 26) (.c (.i .i64 1)), none⟩,
  ⟨some 27, .mv (.t 28), none⟩]
def a126_r6 : List AOper := [⟨some 29, .mv (.t 0), none⟩,
  ⟨some 30, .fa 1 (.t 3), none⟩,
  ⟨some 31, .ld 1 false (.t 30), none⟩,
  ⟨some 32, .fa 2 (.t 3), none⟩,
  ⟨some 33, .ld 1 false (.t 32), none⟩,
  ⟨some 34, .call (.c (.clo 159 [])) [.t 29, .t 31, .t 33], none⟩,
  ⟨some 4, .mv (.t 34), none⟩]
def a126_r7 : List AOper := [⟨some 36, .bin .eql (.t 26) (.c (.i .i64 2)), none⟩,
  ⟨some 35, .mv (.t 36), none⟩]
def a126_r8 : List AOper := [⟨some 37, .mv (.t 0), none⟩,
  ⟨some 38, .fa 1 (.t 3), none⟩,
  ⟨some 39, .ld 1 false (.t 38), none⟩,
  ⟨some 40, .call (.c (.clo 160 [])) [.t 37, .t 39], none⟩,
  ⟨some 4, .mv (.t 40), none⟩]
def a126_r9 : List AOper := [⟨some 42, .bin .eql (.t 26) (.c (.i .i64 3)), none⟩,
  ⟨some 41, .mv (.t 42), none⟩]
def a126_r10 : List AOper := [⟨some 43, .mv (.t 0), none⟩,
  ⟨some 44, .fa 1 (.t 3), none⟩,
  ⟨some 45, .ld 1 false (.t 44), none⟩,
  ⟨some 46, .mv (.t 5), none⟩,
  ⟨some 47, .fa 2 (.t 3), none⟩,
  ⟨some 48, .ld 1 false (.t 47), none⟩,
  ⟨some 49, .bin .add (.t 46) (.t 48), none⟩,
  ⟨some 50, .call (.c (.clo 161 [])) [.t 49], none⟩,
  ⟨some 51, .call (.c (.clo 159 [])) [.t 43, .t 45, .t 50], none⟩,
  ⟨some 4, .mv (.t 51), none⟩]
def a126_r11 : List AOper := [⟨some 52, .rowOf 2 [.i .i64 0, .i .i64 0] 0 [], none⟩,
  ⟨some 53, .mv (.t 0), none⟩,
  ⟨some 54, .ap 2 16 (.t 52) (.t 53), none⟩,
  ⟨some 4, .mv (.t 54), none⟩]
def a126 : AFn := ⟨[false, false], .seq (.reg a126_r0 false []) (.seq (.seq (.reg a126_r1 false []) (.cond (.t 14) (.seq (.reg a126_r2 false []) (.ret)) (.skip))) (.seq (.reg a126_r3 false []) (.seq (.seq (.reg a126_r4 false []) (.block 0 (.seq (.reg a126_r5 false []) (.cond (.t 27) (.seq (.reg a126_r6 false []) (.ret)) (.seq (.reg a126_r7 false []) (.cond (.t 35) (.seq (.reg a126_r8 false []) (.ret)) (.seq (.reg a126_r9 false []) (.cond (.t 41) (.seq (.reg a126_r10 true [(2, 7)]) (.ret)) (.skip))))))))) (.seq (.reg a126_r11 false []) (.ret))))), [.t 4], []⟩
theorem reads126 : readFn Try.prog Try.f126 [false, false] [] [] = some a126 := by kernel_rfl
-- slices.IndexFunc[[]impl.Pair,impl.Pair]
def a127_r0 : List AOper := [⟨some 4, .mv (.c (.i .i64 0)), none⟩]
def a127_r1 : List AOper := [⟨some 6, .mv (.t 0), none⟩,
  ⟨some 7, .len false (.t 6), none⟩,
  ⟨some 8, .mv (.c (.i .i64 0)), none⟩]
def a127_r2 : List AOper := [⟨some 9, .bin .lss (.t 8) (.t 7), none⟩]
def a127_r3 : List AOper := [⟨some 10, .mv (.t 8), none⟩,
  ⟨some 5, .mv (.t 10), none⟩]
def a127_r4 : List AOper := [⟨some 11, .mv (.t 1), none⟩,
  ⟨some 12, .mv (.t 0), none⟩,
  ⟨some 13, .mv (.t 5), none⟩,
  ⟨some 14, .ia 2 (.t 12) (.t 13), none⟩,
  ⟨some 15, .ld 2 true (.t 14), none⟩,
  ⟨some 16, .call (.t 11) [.t 15], none⟩]
def a127_r5 : List AOper := [⟨some 17, .mv (.t 5), none⟩,
  ⟨some 4, .mv (.t 17), none⟩]
def a127_r6 : List AOper := [⟨some 18, .bin .add (.t 8) (.c (.i .i64 1)), none⟩,
  ⟨some 8, .mv (.t 18), none⟩]
def a127_l1 : ACode := .seq (.reg a127_r2 false []) (.seq (.cond (.t 9) (.skip) (.exit 0)) (.seq (.block 1 (.seq (.reg a127_r3 false []) (.seq (.reg a127_r4 false []) (.cond (.t 16) (.seq (.reg a127_r5 false []) (.ret)) (.skip))))) (.reg a127_r6 false [])))
def a127_r7 : List AOper := [⟨some 4, .mv (.c (.i .i64 (-1))), none⟩]
def a127 : AFn := ⟨[false, false], .seq (.reg a127_r0 false []) (.seq (.seq (.reg a127_r1 false []) (.block 0 (.loop [] a127_l1))) (.seq (.reg a127_r7 false []) (.ret))), [.t 4], []⟩
theorem reads127 : readFn Try.prog Try.f127 [false, false] [] [[]] = some a127 := by kernel_rfl
-- impl.pairAt$1
def a128_r0 : List AOper := [⟨some 2, .box (.t 0), none⟩,
  ⟨some 3, .mv (.c (.b false)), none⟩]
def a128_r1 : List AOper := [⟨some 4, .fa 0 (.t 2), none⟩,
  ⟨some 5, .ld 1 false (.t 4), none⟩,
  ⟨some 6, .ld 1 false (.t 1), none⟩,
  ⟨some 7, .bin .eql (.t 5) (.t 6), none⟩,
  ⟨some 3, .mv (.t 7), none⟩]
def a128 : AFn := ⟨[false, false], .seq (.reg a128_r0 false []) (.seq (.reg a128_r1 false []) (.ret)), [.t 3], []⟩
theorem reads128 : readFn Try.prog Try.f128 [false, false] [] [] = some a128 := by kernel_rfl
-- spec.l1Byte
def a129_r0 : List AOper := [⟨some 2, .mv (.c (.i .i64 0)), none⟩]
def a129_r1 : List AOper := [⟨some 4, .mv (.t 0), none⟩,
  ⟨some 5, .mv (.t 0), none⟩,
  ⟨some 6, .nc (.t 5), none⟩,
  ⟨some 7, .fa 2 (.t 6), none⟩,
  ⟨some 8, .ld 1 false (.t 7), none⟩,
  ⟨some 9, .bin .mul (.t 8) (.c (.i .i64 6364136223846793005)), none⟩,
  ⟨some 10, .bin .add (.t 9) (.c (.i .i64 1442695040888963407)), none⟩,
  ⟨some 11, .nc (.t 4), none⟩,
  ⟨some 12, .fa 2 (.t 11), none⟩,
  ⟨none, .st 1 (.t 12) (.t 10), none⟩]
def a129_r2 : List AOper := [⟨some 13, .mv (.t 0), none⟩,
  ⟨some 14, .nc (.t 13), none⟩,
  ⟨some 15, .fa 2 (.t 14), none⟩,
  ⟨some 16, .ld 1 false (.t 15), none⟩,
  ⟨some 17, .bin .shr (.t 16) (.c (.i .u64 33)), none⟩,
  ⟨some 18, .mv (.t 0), none⟩,
  ⟨some 19, .nc (.t 18), none⟩,
  ⟨some 20, .fa 2 (.t 19), none⟩,
  ⟨some 21, .ld 1 false (.t 20), none⟩,
  ⟨some 22, .bin .shr (.t 21) (.c (.i .u64 45)), none⟩,
  ⟨some 23, .bin .xor (.t 17) (.t 22), none⟩,
  ⟨some 24, .bin .and (.t 23) (.c (.i .i64 255)), none⟩,
  ⟨some 3, .mv (.t 24), none⟩]
def a129_r3 : List AOper := [⟨some 25, .mv (.t 0), none⟩,
  ⟨some 26, .nc (.t 25), none⟩,
  ⟨some 27, .fa 1 (.t 26), none⟩,
  ⟨some 28, .ld 1 false (.t 27), none⟩,
  ⟨some 29, .mv (.t 0), none⟩,
  ⟨some 30, .nc (.t 29), none⟩,
  ⟨some 31, .fa 0 (.t 30), none⟩,
  ⟨some 32, .ld 1 false (.t 31), none⟩,
  ⟨some 33, .len false (.t 32), none⟩,
  ⟨some 34, .bin .lss (.t 28) (.t 33), none⟩]
def a129_r4 : List AOper := [⟨some 35, .mv (.t 3), none⟩,
  ⟨some 36, .mv (.t 0), none⟩,
  ⟨some 37, .nc (.t 36), none⟩,
  ⟨some 38, .fa 0 (.t 37), none⟩,
  ⟨some 39, .ld 1 false (.t 38), none⟩,
  ⟨some 40, .mv (.t 0), none⟩,
  ⟨some 41, .nc (.t 40), none⟩,
  ⟨some 42, .fa 1 (.t 41), none⟩,
  ⟨some 43, .ld 1 false (.t 42), none⟩,
  ⟨some 44, .ia 1 (.t 39) (.t 43), none⟩,
  ⟨some 45, .ld 1 false (.t 44), none⟩,
  ⟨some 46, .cvI .i64 (.t 45), none⟩,
  ⟨some 47, .bin .add (.t 35) (.t 46), none⟩,
  ⟨some 48, .bin .and (.t 47) (.c (.i .i64 255)), none⟩,
  ⟨some 3, .mv (.t 48), none⟩]
def a129_r5 : List AOper := [⟨some 49, .mv (.t 0), none⟩,
  ⟨some 50, .mv (.t 0), none⟩,
  ⟨some 51, .nc (.t 50), none⟩,
  ⟨some 52, .fa 1 (.t 51), none⟩,
  ⟨some 53, .ld 1 false (.t 52), none⟩,
  ⟨some 54, .bin .add (.t 53) (.c (.i .i64 1)), none⟩,
  ⟨some 55, .nc (.t 49), none⟩,
  ⟨some 56, .fa 1 (.t 55), none⟩,
  ⟨none, .st 1 (.t 56) (.t 54), none⟩]
def a129_r6 : List AOper := [⟨some 57, .mv (.t 3), none⟩,
  ⟨some 2, .mv (.t 57), none⟩]
def a129 : AFn := ⟨[true], .seq (.reg a129_r0 false []) (.seq (.reg a129_r1 false []) (.seq (.reg a129_r2 true []) (.seq (.seq (.reg a129_r3 true []) (.cond (.t 34) (.seq (.reg a129_r4 true []) (.reg a129_r5 false [])) (.skip))) (.seq (.reg a129_r6 false []) (.ret))))), [.t 2], []⟩
theorem reads129 : readFn Try.prog Try.f129 [true] [] [] = some a129 := by kernel_rfl
-- spec.l1Long
def a145_r0 : List AOper := [⟨some 6, .mv (.c (.i .i64 0)), none⟩]
def a145_r1 : List AOper := [⟨some 8, .mv (.t 1), none⟩,
  ⟨some 9, .mv (.t 0), none⟩,
  ⟨some 10, .len false (.t 9), none⟩,
  ⟨some 11, .bin .quo (.t 10) (.c (.i .i64 4)), none⟩,
  ⟨some 12, .bin .add (.t 8) (.t 11), none⟩,
  ⟨some 7, .mv (.t 12), none⟩]
def a145_r2 : List AOper := [⟨some 13, .mv (.t 7), none⟩,
  ⟨some 14, .mv (.t 2), none⟩,
  ⟨some 15, .bin .gtr (.t 13) (.t 14), none⟩]
def a145_r3 : List AOper := [⟨some 16, .mv (.t 2), none⟩,
  ⟨some 6, .mv (.t 16), none⟩]
def a145_r4 : List AOper := [⟨some 17, .mv (.t 7), none⟩,
  ⟨some 6, .mv (.t 17), none⟩]
def a145 : AFn := ⟨[false, false, false], .seq (.reg a145_r0 false []) (.seq (.reg a145_r1 false []) (.seq (.seq (.reg a145_r2 false []) (.cond (.t 15) (.seq (.reg a145_r3 false []) (.ret)) (.skip))) (.seq (.reg a145_r4 false []) (.ret)))), [.t 6], []⟩
theorem reads145 : readFn Try.prog Try.f145 [false, false, false] [] [] = some a145 := by kernel_rfl
-- spec.Inject
def a146_r0 : List AOper := [⟨some 2, .box (.t 0), none⟩,
  ⟨some 3, .box (.t 1), none⟩,
  ⟨some 4, .new [.b false, .emp, .emp, .emp, .emp], none⟩]
def a146_r1 : List AOper := [⟨some 6, .ld 5 true (.t 2), none⟩,
  ⟨some 7, .call (.c (.clo 18 [])) [.t 6], none⟩,
  ⟨some 8, .un .not (.t 7), none⟩,
  ⟨some 9, .mv (.t 8), none⟩,
  ⟨some 10, .ld 3 true (.t 3), some (9, false)⟩,
  ⟨some 11, .call (.c (.clo 123 [])) [.t 10], some (9, false)⟩,
  ⟨some 12, .un .not (.t 11), some (9, false)⟩,
  ⟨some 13, .pick (.t 9) (.c (.b true)) (.t 12), none⟩,
  ⟨some 14, .mv (.t 13), none⟩,
  ⟨some 15, .fa 0 (.t 3), some (14, false)⟩,
  ⟨some 16, .ld 1 false (.t 15), some (14, false)⟩,
  ⟨some 17, .bin .eql (.t 16) (.c (.i .i64 4)), some (14, false)⟩,
  ⟨some 18, .pick (.t 14) (.c (.b true)) (.t 17), none⟩]
def a146_r2 : List AOper := [⟨some 19, .ld 5 true (.t 2), none⟩,
  ⟨some 20, .call (.c (.clo 115 [])) [.t 19], none⟩,
  ⟨none, .st 5 (.t 4) (.t 20), none⟩]
def a146_r3 : List AOper := [⟨some 21, .ld 5 true (.t 2), none⟩,
  ⟨some 22, .call (.c (.clo 115 [])) [.t 21], none⟩,
  ⟨some 23, .ld 3 true (.t 3), none⟩,
  ⟨some 24, .rowOf 3 [.i .i64 0, .i .i64 0, .i .i64 0] 1 [(0, .t 23)], none⟩,
  ⟨some 25, .call (.c (.clo 170 [])) [.t 22, .t 24], none⟩,
  ⟨some 26, .call (.c (.clo 169 [])) [.t 25], none⟩,
  ⟨some 5, .new [.b false, .emp, .emp, .emp, .emp], none⟩,
  ⟨none, .st 5 (.t 5) (.t 26), none⟩]
def a146_r4 : List AOper := [⟨some 27, .ld 5 true (.t 5), none⟩,
  ⟨some 28, .call (.c (.clo 18 [])) [.t 27], none⟩,
  ⟨some 29, .un .not (.t 28), none⟩]
def a146_r5 : List AOper := [⟨some 30, .ld 5 true (.t 2), none⟩,
  ⟨some 31, .call (.c (.clo 115 [])) [.t 30], none⟩,
  ⟨none, .st 5 (.t 4) (.t 31), none⟩]
def a146_r6 : List AOper := [⟨some 32, .ld 5 true (.t 5), none⟩,
  ⟨some 33, .call (.c (.clo 115 [])) [.t 32], none⟩,
  ⟨none, .st 5 (.t 4) (.t 33), none⟩]
def a146 : AFn := ⟨[false, false], .seq (.reg a146_r0 false []) (.seq (.seq (.reg a146_r1 false []) (.cond (.t 18) (.seq (.reg a146_r2 false []) (.ret)) (.skip))) (.seq (.reg a146_r3 true [(1, 2), (0, 3), (1, 3), (0, 6), (1, 6), (2, 6), (3, 6), (4, 6), (5, 6)]) (.seq (.seq (.reg a146_r4 false []) (.cond (.t 29) (.seq (.reg a146_r5 false []) (.ret)) (.skip))) (.seq (.reg a146_r6 false []) (.ret))))), [.cell 4 5 true], []⟩
theorem reads146 : readFn Try.prog Try.f146 [false, false] [] [] = some a146 := by kernel_rfl
-- spec.l1DrawMsg
def a147_r0 : List AOper := [⟨some 2, .new [.i .i64 0, .i .i64 0, .i .i64 0], none⟩]
def a147_r1 : List AOper := [⟨some 4, .mv (.t 0), none⟩,
  ⟨some 5, .rowOf 1 [.i .i64 0] 7 [(0, .c (.i .i64 1)), (1, .c (.i .i64 1)), (2, .c (.i .i64 1)), (3, .c (.i .i64 2)), (4, .c (.i .i64 3)), (5, .c (.i .i64 3)), (6, .c (.i .i64 4))], none⟩,
  ⟨some 6, .call (.c (.clo 116 [])) [.t 4, .t 5], none⟩,
  ⟨some 7, .mv (.t 0), none⟩,
  ⟨some 8, .call (.c (.clo 61 [])) [.t 7], none⟩,
  ⟨some 9, .build [.i .i64 0, .i .i64 0, .i .i64 0] [(0, 1, .t 6), (1, 1, .t 8)], none⟩,
  ⟨some 3, .new [.i .i64 0, .i .i64 0, .i .i64 0], none⟩,
  ⟨none, .st 3 (.t 3) (.t 9), none⟩]
def a147_r2 : List AOper := [⟨some 10, .fa 0 (.t 3), none⟩,
  ⟨some 11, .ld 1 false (.t 10), none⟩,
  ⟨some 12, .bin .eql (.t 11) (.c (.i .i64 1)), none⟩,
  ⟨some 13, .mv (.t 12), none⟩,
  ⟨some 14, .fa 0 (.t 3), some (13, false)⟩,
  ⟨some 15, .ld 1 false (.t 14), some (13, false)⟩,
  ⟨some 16, .bin .eql (.t 15) (.c (.i .i64 3)), some (13, false)⟩,
  ⟨some 17, .pick (.t 13) (.c (.b true)) (.t 16), none⟩]
def a147_r3 : List AOper := [⟨some 18, .mv (.t 0), none⟩,
  ⟨some 19, .mv (.t 0), none⟩,
  ⟨some 20, .call (.c (.clo 77 [])) [.t 19, .c (.i .i64 99)], none⟩,
  ⟨some 21, .rowOf 1 [.i .i64 0] 7 [(0, .c (.i .i64 1)), (1, .c (.i .i64 (-2))), (2, .c (.i .i64 5)), (3, .c (.i .i64 700)), (4, .c (.i .i64 1000000000)), (5, .c (.i .i64 (-1000000000))), (6, .t 20)], none⟩,
  ⟨some 22, .call (.c (.clo 116 [])) [.t 18, .t 21], none⟩,
  ⟨some 23, .fa 2 (.t 3), none⟩,
  ⟨none, .st 1 (.t 23) (.t 22), none⟩]
def a147_r4 : List AOper := [⟨some 24, .ld 3 true (.t 3), none⟩,
  ⟨none, .st 3 (.t 2) (.t 24), none⟩]
def a147 : AFn := ⟨[true], .seq (.reg a147_r0 false []) (.seq (.reg a147_r1 false []) (.seq (.seq (.reg a147_r2 false []) (.cond (.t 17) (.reg a147_r3 false []) (.skip))) (.seq (.reg a147_r4 false []) (.ret)))), [.cell 2 3 true], []⟩
theorem reads147 : readFn Try.prog Try.f147 [true] [] [] = some a147 := by kernel_rfl
-- spec.Drain
def a148_r0 : List AOper := [⟨some 1, .box (.t 0), none⟩,
  ⟨some 2, .new [.b false, .emp, .emp, .emp, .emp], none⟩]
def a148_r1 : List AOper := [⟨some 4, .ld 5 true (.t 1), none⟩,
  ⟨some 5, .call (.c (.clo 18 [])) [.t 4], none⟩,
  ⟨some 6, .un .not (.t 5), none⟩]
def a148_r2 : List AOper := [⟨some 7, .ld 5 true (.t 1), none⟩,
  ⟨some 8, .call (.c (.clo 115 [])) [.t 7], none⟩,
  ⟨none, .st 5 (.t 2) (.t 8), none⟩]
def a148_r3 : List AOper := [⟨some 9, .ld 5 true (.t 1), none⟩,
  ⟨some 10, .call (.c (.clo 115 [])) [.t 9], none⟩,
  ⟨some 11, .call (.c (.clo 171 [])) [.t 10], none⟩,
  ⟨some 12, .call (.c (.clo 169 [])) [.t 11], none⟩,
  ⟨some 3, .new [.b false, .emp, .emp, .emp, .emp], none⟩,
  ⟨none, .st 5 (.t 3) (.t 12), none⟩]
def a148_r4 : List AOper := [⟨some 13, .ld 5 true (.t 3), none⟩,
  ⟨some 14, .call (.c (.clo 18 [])) [.t 13], none⟩,
  ⟨some 15, .un .not (.t 14), none⟩]
def a148_r5 : List AOper := [⟨some 16, .ld 5 true (.t 1), none⟩,
  ⟨some 17, .call (.c (.clo 115 [])) [.t 16], none⟩,
  ⟨none, .st 5 (.t 2) (.t 17), none⟩]
def a148_r6 : List AOper := [⟨some 18, .ld 5 true (.t 3), none⟩,
  ⟨some 19, .call (.c (.clo 115 [])) [.t 18], none⟩,
  ⟨none, .st 5 (.t 2) (.t 19), none⟩]
def a148 : AFn := ⟨[false], .seq (.reg a148_r0 false []) (.seq (.seq (.reg a148_r1 false []) (.cond (.t 6) (.seq (.reg a148_r2 false []) (.ret)) (.skip))) (.seq (.reg a148_r3 false []) (.seq (.seq (.reg a148_r4 false []) (.cond (.t 15) (.seq (.reg a148_r5 false []) (.ret)) (.skip))) (.seq (.reg a148_r6 false []) (.ret))))), [.cell 2 5 true], []⟩
theorem reads148 : readFn Try.prog Try.f148 [false] [] [] = some a148 := by kernel_rfl
-- slices.ContainsFunc[[]impl.Pair,impl.Pair]
def a149_r0 : List AOper := [⟨some 4, .mv (.c (.b false)), none⟩]
def a149_r1 : List AOper := [⟨some 5, .mv (.t 0), none⟩,
  ⟨some 6, .mv (.t 1), none⟩,
  ⟨some 7, .call (.c (.clo 127 [])) [.t 5, .t 6], none⟩,
  ⟨some 8, .bin .geq (.t 7) (.c (.i .i64 0)), none⟩,
  ⟨some 4, .mv (.t 8), none⟩]
def a149 : AFn := ⟨[false, false], .seq (.reg a149_r0 false []) (.seq (.reg a149_r1 false []) (.ret)), [.t 4], []⟩
theorem reads149 : readFn Try.prog Try.f149 [false, false] [] [] = some a149 := by kernel_rfl
-- impl.leafOk$1
def a150_r0 : List AOper := [⟨some 3, .box (.t 0), none⟩,
  ⟨some 4, .mv (.c (.b false)), none⟩]
def a150_r1 : List AOper := [⟨some 5, .fa 0 (.t 3), none⟩,
  ⟨some 6, .ld 1 false (.t 5), none⟩,
  ⟨some 7, .ld 1 false (.t 1), none⟩,
  ⟨some 8, .ld 1 false (.t 2), none⟩,
  ⟨some 9, .bin .sub (.t 8) (.c (.i .i64 1)), none⟩,
  ⟨some 10, .call (.c (.clo 118 [])) [.t 6, .t 7, .t 9], none⟩,
  ⟨some 11, .un .not (.t 10), none⟩,
  ⟨some 4, .mv (.t 11), none⟩]
def a150 : AFn := ⟨[false, false, false], .seq (.reg a150_r0 false []) (.seq (.reg a150_r1 false []) (.ret)), [.t 4], []⟩
theorem reads150 : readFn Try.prog Try.f150 [false, false, false] [] [] = some a150 := by kernel_rfl
-- slices.IndexFunc[[]impl.Msg,impl.Msg]
def a151_r0 : List AOper := [⟨some 4, .mv (.c (.i .i64 0)), none⟩]
def a151_r1 : List AOper := [⟨some 6, .mv (.t 0), none⟩,
  ⟨some 7, .len false (.t 6), none⟩,
  ⟨some 8, .mv (.c (.i .i64 0)), none⟩]
def a151_r2 : List AOper := [⟨some 9, .bin .lss (.t 8) (.t 7), none⟩]
def a151_r3 : List AOper := [⟨some 10, .mv (.t 8), none⟩,
  ⟨some 5, .mv (.t 10), none⟩]
def a151_r4 : List AOper := [⟨some 11, .mv (.t 1), none⟩,
  ⟨some 12, .mv (.t 0), none⟩,
  ⟨some 13, .mv (.t 5), none⟩,
  ⟨some 14, .ia 3 (.t 12) (.t 13), none⟩,
  ⟨some 15, .ld 3 true (.t 14), none⟩,
  ⟨some 16, .call (.t 11) [.t 15], none⟩]
def a151_r5 : List AOper := [⟨some 17, .mv (.t 5), none⟩,
  ⟨some 4, .mv (.t 17), none⟩]
def a151_r6 : List AOper := [⟨some 18, .bin .add (.t 8) (.c (.i .i64 1)), none⟩,
  ⟨some 8, .mv (.t 18), none⟩]
def a151_l1 : ACode := .seq (.reg a151_r2 false []) (.seq (.cond (.t 9) (.skip) (.exit 0)) (.seq (.block 1 (.seq (.reg a151_r3 false []) (.seq (.reg a151_r4 false []) (.cond (.t 16) (.seq (.reg a151_r5 false []) (.ret)) (.skip))))) (.reg a151_r6 false [])))
def a151_r7 : List AOper := [⟨some 4, .mv (.c (.i .i64 (-1))), none⟩]
def a151 : AFn := ⟨[false, false], .seq (.reg a151_r0 false []) (.seq (.seq (.reg a151_r1 false []) (.block 0 (.loop [] a151_l1))) (.seq (.reg a151_r7 false []) (.ret))), [.t 4], []⟩
theorem reads151 : readFn Try.prog Try.f151 [false, false] [] [[]] = some a151 := by kernel_rfl
-- spec.MapOk
def a152_r0 : List AOper := [⟨some 2, .mv (.c (.b false)), none⟩]
def a152_r1 : List AOper := [⟨some 3, .mv (.c (.i .i64 0)), none⟩]
def a152_r2 : List AOper := [⟨some 4, .mv (.t 3), none⟩,
  ⟨some 5, .mv (.t 0), none⟩,
  ⟨some 6, .len false (.t 5), none⟩,
  ⟨some 7, .bin .lss (.t 4) (.t 6), none⟩]
def a152_r4 : List AOper := [⟨some 10, .mv (.t 0), none⟩,
  ⟨some 11, .mv (.t 3), none⟩,
  ⟨some 12, .ia 2 (.t 10) (.t 11), none⟩,
  ⟨some 13, .fa 0 (.t 12), none⟩,
  ⟨some 14, .ld 1 false (.t 13), none⟩,
  ⟨some 15, .call (.c (.clo 85 [])) [.t 14, .c (.i .i64 0), .c (.i .i64 999)], none⟩,
  ⟨some 16, .un .not (.t 15), none⟩,
  ⟨some 17, .mv (.t 16), none⟩,
  ⟨some 18, .mv (.t 0), some (17, false)⟩,
  ⟨some 19, .mv (.t 3), some (17, false)⟩,
  ⟨some 20, .ia 2 (.t 18) (.t 19), some (17, false)⟩,
  ⟨some 21, .fa 1 (.t 20), some (17, false)⟩,
  ⟨some 22, .ld 1 false (.t 21), some (17, false)⟩,
  ⟨some 23, .call (.c (.clo 153 [])) [.t 22], some (17, false)⟩,
  ⟨some 24, .un .not (.t 23), some (17, false)⟩,
  ⟨some 25, .pick (.t 17) (.c (.b true)) (.t 24), none⟩,
  ⟨some 26, .mv (.t 25), none⟩,
  ⟨some 27, .mv (.t 3), some (26, false)⟩,
  ⟨some 28, .bin .gtr (.t 27) (.c (.i .i64 0)), some (26, false)⟩,
  ⟨some 29, .mv (.t 28), some (26, false)⟩,
  ⟨some 30, .mv (.t 0), some (29, true)⟩,
  ⟨some 31, .mv (.t 3), some (29, true)⟩,
  ⟨some 32, .bin .sub (.t 31) (.c (.i .i64 1)), some (29, true)⟩,
  ⟨some 33, .ia 2 (.t 30) (.t 32), some (29, true)⟩,
  ⟨some 34, .fa 0 (.t 33), some (29, true)⟩,
  ⟨some 35, .ld 1 false (.t 34), some (29, true)⟩,
  ⟨some 36, .mv (.t 0), some (29, true)⟩,
  ⟨some 37, .mv (.t 3), some (29, true)⟩,
  ⟨some 38, .ia 2 (.t 36) (.t 37), some (29, true)⟩,
  ⟨some 39, .fa 0 (.t 38), some (29, true)⟩,
  ⟨some 40, .ld 1 false (.t 39), some (29, true)⟩,
  ⟨some 41, .bin .geq (.t 35) (.t 40), some (29, true)⟩,
  ⟨some 42, .pick (.t 29) (.t 41) (.c (.b false)), some (26, false)⟩,
  ⟨some 43, .pick (.t 26) (.c (.b true)) (.t 42), none⟩]
def a152_r5 : List AOper := [⟨some 2, .mv (.c (.b false)), none⟩]
def a152_r3 : List AOper := [⟨some 8, .mv (.t 3), none⟩,
  ⟨some 9, .bin .add (.t 8) (.c (.i .i64 1)), none⟩,
  ⟨some 3, .mv (.t 9), none⟩]
def a152_l1 : ACode := .seq (.seq (.reg a152_r2 false []) (.cond (.t 7) (.skip) (.exit 0))) (.seq (.block 1 (.seq (.reg a152_r4 true []) (.cond (.t 43) (.seq (.reg a152_r5 false []) (.ret)) (.skip)))) (.reg a152_r3 false []))
def a152_r6 : List AOper := [⟨some 2, .mv (.c (.b true)), none⟩]
def a152 : AFn := ⟨[false], .seq (.reg a152_r0 false []) (.seq (.seq (.reg a152_r1 false []) (.block 0 (.loop [] a152_l1))) (.seq (.reg a152_r6 false []) (.ret))), [.t 2], []⟩
theorem reads152 : readFn Try.prog Try.f152 [false] [] [[]] = some a152 := by kernel_rfl
-- spec.l1Value
def a153_r0 : List AOper := [⟨some 2, .mv (.c (.b false)), none⟩]
def a153_r1 : List AOper := [⟨some 3, .mv (.t 0), none⟩,
  ⟨some 4, .call (.c (.clo 85 [])) [.t 3, .c (.i .i64 (-1000000000)), .c (.i .i64 1000000000)], none⟩,
  ⟨some 2, .mv (.t 4), none⟩]
def a153 : AFn := ⟨[false], .seq (.reg a153_r0 false []) (.seq (.reg a153_r1 false []) (.ret)), [.t 2], []⟩
theorem reads153 : readFn Try.prog Try.f153 [false] [] [] = some a153 := by kernel_rfl
-- slices.BinarySearchFunc[[]impl.Pair,impl.Pair,int]
def a154_r0 : List AOper := [⟨some 6, .mv (.c (.i .i64 0)), none⟩,
  ⟨some 7, .mv (.c (.b false)), none⟩]
def a154_r1 : List AOper := [⟨some 12, .mv (.t 0), none⟩,
  ⟨some 13, .len false (.t 12), none⟩,
  ⟨some 8, .mv (.t 13), none⟩]
def a154_r2 : List AOper := [⟨some 14, .mv (.t 8), none⟩,
  ⟨some 9, .mv (.c (.i .i64 0)), none⟩,
  ⟨some 10, .mv (.t 14), none⟩]
def a154_r3 : List AOper := [⟨some 15, .mv (.t 9), none⟩,
  ⟨some 16, .mv (.t 10), none⟩,
  ⟨some 17, .bin .lss (.t 15) (.t 16), none⟩]
def a154_r4 : List AOper := [⟨some 18, .mv (.t 9), none⟩,
  ⟨some 19, .mv (.t 10), none⟩,
  ⟨some 20, .bin .add (.t 18) (.t 19), none⟩,
  ⟨some 21, .cvI .u64 (.t 20), none⟩,
  ⟨some 22, .bin .shr (.t 21) (.c (.i .u64 1)), none⟩,
  ⟨some 23, .cvI .i64 (.t 22), none⟩,
  ⟨some 11, .mv (.t 23), none⟩]
def a154_r5 : List AOper := [⟨some 24, .mv (.t 2), none⟩,
  ⟨some 25, .mv (.t 0), none⟩,
  ⟨some 26, .mv (.t 11), none⟩,
  ⟨some 27, .ia 2 (.t 25) (.t 26), none⟩,
  ⟨some 28, .ld 2 true (.t 27), none⟩,
  ⟨some 29, .mv (.t 1), none⟩,
  ⟨some 30, .call (.t 24) [.t 28, .t 29], none⟩,
  ⟨some 31, .bin .lss (.t 30) (.c (.i .i64 0)), none⟩]
def a154_r6 : List AOper := [⟨some 32, .mv (.t 11), none⟩,
  ⟨some 33, .bin .add (.t 32) (.c (.i .i64 1)), none⟩,
  ⟨some 9, .mv (.t 33), none⟩]
def a154_r7 : List AOper := [⟨some 34, .mv (.t 11), none⟩,
  ⟨some 10, .mv (.t 34), none⟩]
def a154_l1 : ACode := .seq (.seq (.reg a154_r3 false []) (.cond (.t 17) (.skip) (.exit 0))) (.block 1 (.seq (.reg a154_r4 false []) (.seq (.reg a154_r5 false []) (.cond (.t 31) (.reg a154_r6 false []) (.reg a154_r7 false [])))))
def a154_r8 : List AOper := [⟨some 35, .mv (.t 9), none⟩,
  ⟨some 36, .mv (.t 9), none⟩,
  ⟨some 37, .mv (.t 8), none⟩,
  ⟨some 38, .bin .lss (.t 36) (.t 37), none⟩,
  ⟨some 39, .mv (.t 38), none⟩,
  ⟨some 40, .mv (.t 2), some (39, true)⟩,
  ⟨some 41, .mv (.t 0), some (39, true)⟩,
  ⟨some 42, .mv (.t 9), some (39, true)⟩,
  ⟨some 43, .ia 2 (.t 41) (.t 42), some (39, true)⟩,
  ⟨some 44, .ld 2 true (.t 43), some (39, true)⟩,
  ⟨some 45, .mv (.t 1), some (39, true)⟩,
  ⟨some 46, .call (.t 40) [.t 44, .t 45], some (39, true)⟩,
  ⟨some 47, .bin .eql (.t 46) (.c (.i .i64 0)), some (39, true)⟩,
  ⟨some 48, .pick (.t 39) (.t 47) (.c (.b false)), none⟩,
  ⟨some 6, .mv (.t 35), none⟩,
  ⟨some 7, .mv (.t 48), none⟩]
def a154 : AFn := ⟨[false, false, false], .seq (.reg a154_r0 false []) (.seq (.reg a154_r1 false []) (.seq (.reg a154_r2 false []) (.seq (.block 0 (.loop [] a154_l1)) (.seq (.reg a154_r8 false []) (.ret))))), [.t 6, .t 7], []⟩
theorem reads154 : readFn Try.prog Try.f154 [false, false, false] [] [[]] = some a154 := by kernel_rfl
-- impl.changed$1
def a155_r0 : List AOper := [⟨some 2, .box (.t 0), none⟩,
  ⟨some 4, .mv (.c (.i .i64 0)), none⟩]
def a155_r1 : List AOper := [⟨some 5, .fa 0 (.t 2), none⟩,
  ⟨some 6, .ld 1 false (.t 5), none⟩,
  ⟨some 7, .mv (.t 1), none⟩,
  ⟨some 8, .bin .sub (.t 6) (.t 7), none⟩,
  ⟨some 4, .mv (.t 8), none⟩]
def a155 : AFn := ⟨[false, false], .seq (.reg a155_r0 false []) (.seq (.reg a155_r1 false []) (.ret)), [.t 4], []⟩
theorem reads155 : readFn Try.prog Try.f155 [false, false] [] [] = some a155 := by kernel_rfl
-- slices.Delete[[]impl.Pair,impl.Pair]
def a156_r0 : List AOper := [⟨some 6, .mv (.c (.emp)), none⟩]
def a156_r1 : List AOper := [⟨some 8, .mv (.t 0), none⟩,
  ⟨some 9, .mv (.t 1), none⟩,
  ⟨some 10, .mv (.t 2), none⟩,
  ⟨some 11, .mv (.t 0), none⟩,
  ⟨some 12, .len false (.t 11), none⟩,
  ⟨some 13, .sl 2 (.t 8) (some (.t 9)) (some (.t 10)) (some (.t 12)), none⟩]
def a156_r2 : List AOper := [⟨some 14, .mv (.t 1), none⟩,
  ⟨some 15, .mv (.t 2), none⟩,
  ⟨some 16, .bin .eql (.t 14) (.t 15), none⟩]
def a156_r3 : List AOper := [⟨some 17, .mv (.t 0), none⟩,
  ⟨some 6, .mv (.t 17), none⟩]
def a156_r4 : List AOper := [⟨some 18, .mv (.t 0), none⟩,
  ⟨some 19, .len false (.t 18), none⟩,
  ⟨some 7, .mv (.t 19), none⟩]
def a156_r5 : List AOper := [⟨some 20, .mv (.t 0), none⟩,
  ⟨some 21, .mv (.t 1), none⟩,
  ⟨some 22, .sl 2 (.t 20) none (some (.t 21)) none, none⟩,
  ⟨some 23, .mv (.t 0), none⟩,
  ⟨some 24, .mv (.t 2), none⟩,
  ⟨some 25, .sl 2 (.t 23) (some (.t 24)) none none, none⟩,
  ⟨some 26, .ap 2 16 (.t 22) (.t 25), none⟩,
  ⟨some 0, .mv (.t 26), none⟩]
def a156_r6 : List AOper := [⟨some 27, .mv (.t 0), none⟩,
  ⟨some 28, .mv (.t 0), none⟩,
  ⟨some 29, .len false (.t 28), none⟩,
  ⟨some 30, .mv (.t 7), none⟩,
  ⟨some 31, .sl 2 (.t 27) (some (.t 29)) (some (.t 30)) none, none⟩,
  ⟨none, .clr 2 [.i .i64 0, .i .i64 0] (.t 31), none⟩]
def a156_r7 : List AOper := [⟨some 32, .mv (.t 0), none⟩,
  ⟨some 6, .mv (.t 32), none⟩]
def a156 : AFn := ⟨[true, false, false], .seq (.reg a156_r0 false []) (.seq (.reg a156_r1 false []) (.seq (.seq (.reg a156_r2 false []) (.cond (.t 16) (.seq (.reg a156_r3 false []) (.ret)) (.skip))) (.seq (.reg a156_r4 false []) (.seq (.reg a156_r5 true []) (.seq (.reg a156_r6 false []) (.seq (.reg a156_r7 false []) (.ret))))))), [.t 6], [0]⟩
theorem reads156 : readFn Try.prog Try.f156 [true, false, false] [0] [] = some a156 := by kernel_rfl
-- impl.limited
def a157_r0 : List AOper := [⟨some 2, .mv (.c (.i .i64 0)), none⟩]
def a157_r1 : List AOper := [⟨some 3, .mv (.t 0), none⟩,
  ⟨some 4, .mni (.t 3) (.c (.i .i64 1000000000)), none⟩,
  ⟨some 5, .mxi (.c (.i .i64 (-1000000000))) (.t 4), none⟩,
  ⟨some 2, .mv (.t 5), none⟩]
def a157 : AFn := ⟨[false], .seq (.reg a157_r0 false []) (.seq (.reg a157_r1 false []) (.ret)), [.t 2], []⟩
theorem reads157 : readFn Try.prog Try.f157 [false] [] [] = some a157 := by kernel_rfl
-- slices.Insert[[]impl.Pair,impl.Pair]
def a158_r0 : List AOper := [⟨some 6, .mv (.c (.emp)), none⟩]
def a158_r1 : List AOper := [⟨some 10, .mv (.t 0), none⟩,
  ⟨some 11, .mv (.t 1), none⟩,
  ⟨some 12, .sl 2 (.t 10) (some (.t 11)) none none, none⟩]
def a158_r2 : List AOper := [⟨some 13, .mv (.t 2), none⟩,
  ⟨some 14, .len false (.t 13), none⟩,
  ⟨some 7, .mv (.t 14), none⟩]
def a158_r3 : List AOper := [⟨some 15, .mv (.t 7), none⟩,
  ⟨some 16, .bin .eql (.t 15) (.c (.i .i64 0)), none⟩]
def a158_r4 : List AOper := [⟨some 17, .mv (.t 0), none⟩,
  ⟨some 6, .mv (.t 17), none⟩]
def a158_r5 : List AOper := [⟨some 18, .mv (.t 0), none⟩,
  ⟨some 19, .len false (.t 18), none⟩,
  ⟨some 8, .mv (.t 19), none⟩]
def a158_r6 : List AOper := [⟨some 20, .mv (.t 1), none⟩,
  ⟨some 21, .mv (.t 8), none⟩,
  ⟨some 22, .bin .eql (.t 20) (.t 21), none⟩]
def a158_r7 : List AOper := [⟨some 23, .mv (.t 0), none⟩,
  ⟨some 24, .mv (.t 2), none⟩,
  ⟨some 25, .ap 2 16 (.t 23) (.t 24), none⟩,
  ⟨some 6, .mv (.t 25), none⟩]
def a158_r8 : List AOper := [⟨some 26, .mv (.t 8), none⟩,
  ⟨some 27, .mv (.t 7), none⟩,
  ⟨some 28, .bin .add (.t 26) (.t 27), none⟩,
  ⟨some 29, .mv (.t 0), none⟩,
  ⟨some 30, .cap (.t 29), none⟩,
  ⟨some 31, .bin .gtr (.t 28) (.t 30), none⟩]
def a158_r9 : List AOper := [⟨some 32, .mv (.t 0), none⟩,
  ⟨some 33, .mv (.t 1), none⟩,
  ⟨some 34, .sl 2 (.t 32) none (some (.t 33)) none, none⟩,
  ⟨some 35, .mv (.t 8), none⟩,
  ⟨some 36, .mv (.t 7), none⟩,
  ⟨some 37, .bin .add (.t 35) (.t 36), none⟩,
  ⟨some 38, .mv (.t 1), none⟩,
  ⟨some 39, .bin .sub (.t 37) (.t 38), none⟩,
  ⟨some 40, .apz 2 16 [.i .i64 0, .i .i64 0] (.t 34) (.t 39), none⟩,
  ⟨some 9, .mv (.t 40), none⟩]
def a158_r10 : List AOper := [⟨some 41, .mv (.t 9), none⟩,
  ⟨some 42, .mv (.t 1), none⟩,
  ⟨some 43, .sl 2 (.t 41) (some (.t 42)) none none, none⟩,
  ⟨some 44, .mv (.t 2), none⟩,
  ⟨some 45, .bad, none⟩]
def a158_r11 : List AOper := [⟨some 46, .mv (.t 9), none⟩,
  ⟨some 47, .mv (.t 1), none⟩,
  ⟨some 48, .mv (.t 7), none⟩,
  ⟨some 49, .bin .add (.t 47) (.t 48), none⟩,
  ⟨some 50, .sl 2 (.t 46) (some (.t 49)) none none, none⟩,
  ⟨some 51, .mv (.t 0), none⟩,
  ⟨some 52, .mv (.t 1), none⟩,
  ⟨some 53, .sl 2 (.t 51) (some (.t 52)) none none, none⟩,
  ⟨some 54, .bad, none⟩]
def a158_r12 : List AOper := [⟨some 55, .mv (.t 9), none⟩,
  ⟨some 6, .mv (.t 55), none⟩]
def a158_r13 : List AOper := [⟨some 56, .mv (.t 0), none⟩,
  ⟨some 57, .mv (.t 8), none⟩,
  ⟨some 58, .mv (.t 7), none⟩,
  ⟨some 59, .bin .add (.t 57) (.t 58), none⟩,
  ⟨some 60, .sl 2 (.t 56) none (some (.t 59)) none, none⟩,
  ⟨some 0, .mv (.t 60), none⟩]
def a158_r14 : List AOper := [⟨some 61, .mv (.t 2), none⟩,
  ⟨some 62, .mv (.t 0), none⟩,
  ⟨some 63, .mv (.t 1), none⟩,
  ⟨some 64, .mv (.t 7), none⟩,
  ⟨some 65, .bin .add (.t 63) (.t 64), none⟩,
  ⟨some 66, .sl 2 (.t 62) (some (.t 65)) none none, none⟩,
  ⟨some 67, .call (.c (.clo 172 [])) [.t 61, .t 66], none⟩,
  ⟨some 68, .un .not (.t 67), none⟩]
def a158_r15 : List AOper := [⟨some 69, .mv (.t 0), none⟩,
  ⟨some 70, .mv (.t 1), none⟩,
  ⟨some 71, .mv (.t 7), none⟩,
  ⟨some 72, .bin .add (.t 70) (.t 71), none⟩,
  ⟨some 73, .sl 2 (.t 69) (some (.t 72)) none none, none⟩,
  ⟨some 74, .mv (.t 0), none⟩,
  ⟨some 75, .mv (.t 1), none⟩,
  ⟨some 76, .sl 2 (.t 74) (some (.t 75)) none none, none⟩,
  ⟨some 77, .bad, none⟩]
def a158_r16 : List AOper := [⟨some 78, .mv (.t 0), none⟩,
  ⟨some 79, .mv (.t 1), none⟩,
  ⟨some 80, .sl 2 (.t 78) (some (.t 79)) none none, none⟩,
  ⟨some 81, .mv (.t 2), none⟩,
  ⟨some 82, .bad, none⟩]
def a158_r17 : List AOper := [⟨some 83, .mv (.t 0), none⟩,
  ⟨some 6, .mv (.t 83), none⟩]
def a158_r18 : List AOper := [⟨some 84, .mv (.t 0), none⟩,
  ⟨some 85, .mv (.t 8), none⟩,
  ⟨some 86, .sl 2 (.t 84) (some (.t 85)) none none, none⟩,
  ⟨some 87, .mv (.t 2), none⟩,
  ⟨some 88, .bad, none⟩]
def a158_r19 : List AOper := [⟨some 89, .mv (.t 0), none⟩,
  ⟨some 90, .mv (.t 1), none⟩,
  ⟨some 91, .sl 2 (.t 89) (some (.t 90)) none none, none⟩,
  ⟨some 92, .mv (.t 7), none⟩,
  ⟨some 93, .call (.c (.clo 173 [])) [.t 91, .t 92], none⟩]
def a158_r20 : List AOper := [⟨some 94, .mv (.t 0), none⟩,
  ⟨some 6, .mv (.t 94), none⟩]
def a158 : AFn := ⟨[true, false, false], .seq (.reg a158_r0 false []) (.seq (.reg a158_r1 false []) (.seq (.reg a158_r2 false []) (.seq (.seq (.reg a158_r3 false []) (.cond (.t 16) (.seq (.reg a158_r4 false []) (.ret)) (.skip))) (.seq (.reg a158_r5 false []) (.seq (.seq (.reg a158_r6 false []) (.cond (.t 22) (.seq (.reg a158_r7 false []) (.ret)) (.skip))) (.seq (.seq (.reg a158_r8 false []) (.cond (.t 31) (.seq (.reg a158_r9 false []) (.seq (.reg a158_r10 false []) (.seq (.reg a158_r11 true []) (.seq (.reg a158_r12 false []) (.ret))))) (.skip))) (.seq (.reg a158_r13 false []) (.seq (.seq (.reg a158_r14 false []) (.cond (.t 68) (.seq (.reg a158_r15 true []) (.seq (.reg a158_r16 false []) (.seq (.reg a158_r17 false []) (.ret)))) (.skip))) (.seq (.reg a158_r18 false []) (.seq (.reg a158_r19 false []) (.seq (.reg a158_r20 false []) (.ret)))))))))))), [.t 6], [0]⟩
theorem reads158 : readFn Try.prog Try.f158 [true, false, false] [0] [] = some a158 := by kernel_rfl
-- spec.l1Put
def a159_r0 : List AOper := [⟨some 6, .mv (.c (.emp)), none⟩]
def a159_r1 : List AOper := [⟨some 10, .rowOf 2 [.i .i64 0, .i .i64 0] 0 [], none⟩,
  ⟨some 7, .mv (.t 10), none⟩]
def a159_r2 : List AOper := [⟨some 8, .mv (.c (.b false)), none⟩]
def a159_r3 : List AOper := [⟨some 9, .mv (.c (.i .i64 0)), none⟩]
def a159_r4 : List AOper := [⟨some 11, .mv (.t 9), none⟩,
  ⟨some 12, .mv (.t 0), none⟩,
  ⟨some 13, .len false (.t 12), none⟩,
  ⟨some 14, .bin .lss (.t 11) (.t 13), none⟩]
def a159_r6 : List AOper := [⟨some 17, .mv (.t 8), none⟩,
  ⟨some 18, .un .not (.t 17), none⟩,
  ⟨some 19, .mv (.t 18), none⟩,
  ⟨some 20, .mv (.t 0), some (19, true)⟩,
  ⟨some 21, .mv (.t 9), some (19, true)⟩,
  ⟨some 22, .ia 2 (.t 20) (.t 21), some (19, true)⟩,
  ⟨some 23, .fa 0 (.t 22), some (19, true)⟩,
  ⟨some 24, .ld 1 false (.t 23), some (19, true)⟩,
  ⟨some 25, .mv (.t 1), some (19, true)⟩,
  ⟨some 26, .bin .geq (.t 24) (.t 25), some (19, true)⟩,
  ⟨some 27, .pick (.t 19) (.t 26) (.c (.b false)), none⟩]
def a159_r7 : List AOper := [⟨some 28, .mv (.t 7), none⟩,
  ⟨some 29, .mv (.t 1), none⟩,
  ⟨some 30, .mv (.t 2), none⟩,
  ⟨some 31, .build [.i .i64 0, .i .i64 0] [(0, 1, .t 29), (1, 1, .t 30)], none⟩,
  ⟨some 32, .rowOf 2 [.i .i64 0, .i .i64 0] 1 [(0, .t 31)], none⟩,
  ⟨some 33, .ap 2 16 (.t 28) (.t 32), none⟩,
  ⟨some 7, .mv (.t 33), none⟩]
def a159_r8 : List AOper := [⟨some 8, .mv (.c (.b true)), none⟩]
def a159_r9 : List AOper := [⟨some 34, .mv (.t 0), none⟩,
  ⟨some 35, .mv (.t 9), none⟩,
  ⟨some 36, .ia 2 (.t 34) (.t 35), none⟩,
  ⟨some 37, .fa 0 (.t 36), none⟩,
  ⟨some 38, .ld 1 false (.t 37), none⟩,
  ⟨some 39, .mv (.t 1), none⟩,
  ⟨some 40, .bin .neq (.t 38) (.t 39), none⟩]
def a159_r10 : List AOper := [⟨some 41, .mv (.t 7), none⟩,
  ⟨some 42, .mv (.t 0), none⟩,
  ⟨some 43, .mv (.t 9), none⟩,
  ⟨some 44, .ia 2 (.t 42) (.t 43), none⟩,
  ⟨some 45, .ld 2 true (.t 44), none⟩,
  ⟨some 46, .rowOf 2 [.i .i64 0, .i .i64 0] 1 [(0, .t 45)], none⟩,
  ⟨some 47, .ap 2 16 (.t 41) (.t 46), none⟩,
  ⟨some 7, .mv (.t 47), none⟩]
def a159_r5 : List AOper := [⟨some 15, .mv (.t 9), none⟩,
  ⟨some 16, .bin .add (.t 15) (.c (.i .i64 1)), none⟩,
  ⟨some 9, .mv (.t 16), none⟩]
def a159_l1 : ACode := .seq (.seq (.reg a159_r4 false []) (.cond (.t 14) (.skip) (.exit 0))) (.seq (.block 1 (.seq (.seq (.reg a159_r6 false []) (.cond (.t 27) (.seq (.reg a159_r7 false []) (.reg a159_r8 false [])) (.skip))) (.seq (.reg a159_r9 false []) (.cond (.t 40) (.reg a159_r10 false []) (.skip))))) (.reg a159_r5 false []))
def a159_r11 : List AOper := [⟨some 48, .mv (.t 8), none⟩,
  ⟨some 49, .un .not (.t 48), none⟩]
def a159_r12 : List AOper := [⟨some 50, .mv (.t 7), none⟩,
  ⟨some 51, .mv (.t 1), none⟩,
  ⟨some 52, .mv (.t 2), none⟩,
  ⟨some 53, .build [.i .i64 0, .i .i64 0] [(0, 1, .t 51), (1, 1, .t 52)], none⟩,
  ⟨some 54, .rowOf 2 [.i .i64 0, .i .i64 0] 1 [(0, .t 53)], none⟩,
  ⟨some 55, .ap 2 16 (.t 50) (.t 54), none⟩,
  ⟨some 7, .mv (.t 55), none⟩]
def a159_r13 : List AOper := [⟨some 56, .mv (.t 7), none⟩,
  ⟨some 6, .mv (.t 56), none⟩]
def a159 : AFn := ⟨[false, false, false], .seq (.reg a159_r0 false []) (.seq (.reg a159_r1 false []) (.seq (.reg a159_r2 false []) (.seq (.seq (.reg a159_r3 false []) (.block 0 (.loop [] a159_l1))) (.seq (.seq (.reg a159_r11 false []) (.cond (.t 49) (.reg a159_r12 false []) (.skip))) (.seq (.reg a159_r13 false []) (.ret)))))), [.t 6], []⟩
theorem reads159 : readFn Try.prog Try.f159 [false, false, false] [] [[]] = some a159 := by kernel_rfl
-- spec.l1Without
def a160_r0 : List AOper := [⟨some 4, .mv (.c (.emp)), none⟩]
def a160_r1 : List AOper := [⟨some 7, .rowOf 2 [.i .i64 0, .i .i64 0] 0 [], none⟩,
  ⟨some 5, .mv (.t 7), none⟩]
def a160_r2 : List AOper := [⟨some 6, .mv (.c (.i .i64 0)), none⟩]
def a160_r3 : List AOper := [⟨some 8, .mv (.t 6), none⟩,
  ⟨some 9, .mv (.t 0), none⟩,
  ⟨some 10, .len false (.t 9), none⟩,
  ⟨some 11, .bin .lss (.t 8) (.t 10), none⟩]
def a160_r5 : List AOper := [⟨some 14, .mv (.t 0), none⟩,
  ⟨some 15, .mv (.t 6), none⟩,
  ⟨some 16, .ia 2 (.t 14) (.t 15), none⟩,
  ⟨some 17, .fa 0 (.t 16), none⟩,
  ⟨some 18, .ld 1 false (.t 17), none⟩,
  ⟨some 19, .mv (.t 1), none⟩,
  ⟨some 20, .bin .neq (.t 18) (.t 19), none⟩]
def a160_r6 : List AOper := [⟨some 21, .mv (.t 5), none⟩,
  ⟨some 22, .mv (.t 0), none⟩,
  ⟨some 23, .mv (.t 6), none⟩,
  ⟨some 24, .ia 2 (.t 22) (.t 23), none⟩,
  ⟨some 25, .ld 2 true (.t 24), none⟩,
  ⟨some 26, .rowOf 2 [.i .i64 0, .i .i64 0] 1 [(0, .t 25)], none⟩,
  ⟨some 27, .ap 2 16 (.t 21) (.t 26), none⟩,
  ⟨some 5, .mv (.t 27), none⟩]
def a160_r4 : List AOper := [⟨some 12, .mv (.t 6), none⟩,
  ⟨some 13, .bin .add (.t 12) (.c (.i .i64 1)), none⟩,
  ⟨some 6, .mv (.t 13), none⟩]
def a160_l1 : ACode := .seq (.seq (.reg a160_r3 false []) (.cond (.t 11) (.skip) (.exit 0))) (.seq (.block 1 (.seq (.reg a160_r5 false []) (.cond (.t 20) (.reg a160_r6 false []) (.skip)))) (.reg a160_r4 false []))
def a160_r7 : List AOper := [⟨some 28, .mv (.t 5), none⟩,
  ⟨some 4, .mv (.t 28), none⟩]
def a160 : AFn := ⟨[false, false], .seq (.reg a160_r0 false []) (.seq (.reg a160_r1 false []) (.seq (.seq (.reg a160_r2 false []) (.block 0 (.loop [] a160_l1))) (.seq (.reg a160_r7 false []) (.ret)))), [.t 4], []⟩
theorem reads160 : readFn Try.prog Try.f160 [false, false] [] [[]] = some a160 := by kernel_rfl
-- spec.l1Clamp
def a161_r0 : List AOper := [⟨some 2, .mv (.c (.i .i64 0)), none⟩]
def a161_r1 : List AOper := [⟨some 3, .mv (.t 0), none⟩,
  ⟨some 4, .call (.c (.clo 174 [])) [.t 3, .c (.i .i64 1000000000)], none⟩,
  ⟨some 5, .call (.c (.clo 165 [])) [.t 4, .c (.i .i64 (-1000000000))], none⟩,
  ⟨some 2, .mv (.t 5), none⟩]
def a161 : AFn := ⟨[false], .seq (.reg a161_r0 false []) (.seq (.reg a161_r1 false []) (.ret)), [.t 2], []⟩
theorem reads161 : readFn Try.prog Try.f161 [false] [] [] = some a161 := by kernel_rfl
-- spec.l1Max
def a165_r0 : List AOper := [⟨some 4, .mv (.c (.i .i64 0)), none⟩]
def a165_r1 : List AOper := [⟨some 5, .mv (.t 0), none⟩,
  ⟨some 6, .mv (.t 1), none⟩,
  ⟨some 7, .bin .gtr (.t 5) (.t 6), none⟩]
def a165_r2 : List AOper := [⟨some 8, .mv (.t 0), none⟩,
  ⟨some 4, .mv (.t 8), none⟩]
def a165_r3 : List AOper := [⟨some 9, .mv (.t 1), none⟩,
  ⟨some 4, .mv (.t 9), none⟩]
def a165 : AFn := ⟨[false, false], .seq (.reg a165_r0 false []) (.seq (.seq (.reg a165_r1 false []) (.cond (.t 7) (.seq (.reg a165_r2 false []) (.ret)) (.skip))) (.seq (.reg a165_r3 false []) (.ret))), [.t 4], []⟩
theorem reads165 : readFn Try.prog Try.f165 [false, false] [] [] = some a165 := by kernel_rfl
-- spec.l4Root
def a169_r0 : List AOper := [⟨some 1, .box (.t 0), none⟩,
  ⟨some 2, .new [.b false, .emp, .emp, .emp, .emp], none⟩]
def a169_r1 : List AOper := [⟨some 3, .fa 0 (.t 1), none⟩,
  ⟨some 4, .ld 1 false (.t 3), none⟩,
  ⟨some 5, .len false (.t 4), none⟩,
  ⟨some 6, .bin .gtr (.t 5) (.c (.i .i64 4)), none⟩]
def a169_r2 : List AOper := [⟨some 7, .ld 2 true (.t 1), none⟩,
  ⟨some 8, .call (.c (.clo 177 [])) [.t 7], none⟩,
  ⟨none, .st 2 (.t 1) (.t 8), none⟩]
def a169_l1 : ACode := .seq (.seq (.reg a169_r1 false []) (.cond (.t 6) (.skip) (.exit 0))) (.block 1 (.reg a169_r2 false []))
def a169_r3 : List AOper := [⟨some 9, .fa 0 (.t 1), none⟩,
  ⟨some 10, .ld 1 false (.t 9), none⟩,
  ⟨some 11, .len false (.t 10), none⟩,
  ⟨some 12, .bin .eql (.t 11) (.c (.i .i64 1)), none⟩]
def a169_r4 : List AOper := [⟨some 13, .fa 0 (.t 1), none⟩,
  ⟨some 14, .ld 1 false (.t 13), none⟩,
  ⟨some 15, .ia 5 (.t 14) (.c (.i .i64 0)), none⟩,
  ⟨some 16, .ld 5 true (.t 15), none⟩,
  ⟨none, .st 5 (.t 2) (.t 16), none⟩]
def a169_r5 : List AOper := [⟨some 17, .fa 0 (.t 1), none⟩,
  ⟨some 18, .ld 1 false (.t 17), none⟩,
  ⟨some 19, .fa 1 (.t 1), none⟩,
  ⟨some 20, .ld 1 false (.t 19), none⟩,
  ⟨some 21, .build [.b false, .emp, .emp, .emp, .emp] [(3, 1, .t 18), (2, 1, .t 20)], none⟩,
  ⟨none, .st 5 (.t 2) (.t 21), none⟩]
def a169 : AFn := ⟨[false], .seq (.reg a169_r0 false []) (.seq (.block 0 (.loop [] a169_l1)) (.seq (.seq (.reg a169_r3 false []) (.cond (.t 12) (.seq (.reg a169_r4 false []) (.ret)) (.skip))) (.seq (.reg a169_r5 false []) (.ret)))), [.cell 2 5 true], []⟩
theorem reads169 : readFn Try.prog Try.f169 [false] [] [[]] = some a169 := by kernel_rfl
-- spec.l4Give
def a170_r0 : List AOper := [⟨some 2, .box (.t 0), none⟩,
  ⟨some 4, .new [.emp, .emp], none⟩]
def a170_r1 : List AOper := [⟨some 10, .fa 0 (.t 2), none⟩,
  ⟨some 11, .ld 1 false (.t 10), none⟩]
def a170_r2 : List AOper := [⟨some 12, .fa 1 (.t 2), none⟩,
  ⟨some 13, .ld 1 false (.t 12), none⟩,
  ⟨some 14, .mv (.t 1), none⟩,
  ⟨some 15, .call (.c (.clo 73 [])) [.t 13, .t 14], none⟩,
  ⟨some 16, .call (.c (.clo 178 [])) [.t 15], none⟩,
  ⟨none, .st 2 (.t 4) (.t 16), none⟩]
def a170_r3 : List AOper := [⟨some 17, .rowOf 3 [.i .i64 0, .i .i64 0, .i .i64 0] 0 [], none⟩,
  ⟨some 18, .fa 4 (.t 2), none⟩,
  ⟨some 19, .ld 1 false (.t 18), none⟩,
  ⟨some 20, .ap 3 24 (.t 17) (.t 19), none⟩,
  ⟨some 21, .mv (.t 1), none⟩,
  ⟨some 22, .ap 3 24 (.t 20) (.t 21), none⟩,
  ⟨some 23, .call (.c (.clo 179 [])) [.t 22], none⟩,
  ⟨some 5, .mv (.t 23), none⟩]
def a170_r4 : List AOper := [⟨some 24, .fa 3 (.t 2), none⟩,
  ⟨some 25, .ld 1 false (.t 24), none⟩,
  ⟨some 26, .fa 2 (.t 2), none⟩,
  ⟨some 27, .ld 1 false (.t 26), none⟩,
  ⟨some 28, .build [.emp, .emp] [(0, 1, .t 25), (1, 1, .t 27)], none⟩,
  ⟨some 6, .new [.emp, .emp], none⟩,
  ⟨none, .st 2 (.t 6) (.t 28), none⟩]
def a170_r5 : List AOper := [⟨some 29, .mv (.t 5), none⟩,
  ⟨some 30, .len false (.t 29), none⟩,
  ⟨some 31, .bin .gtr (.t 30) (.c (.i .i64 6)), none⟩]
def a170_r6 : List AOper := [⟨some 32, .ld 2 true (.t 6), none⟩,
  ⟨some 33, .mv (.t 5), none⟩,
  ⟨some 34, .call (.c (.clo 180 [])) [.t 32, .t 33], none⟩,
  ⟨some 7, .mv (.t 34), none⟩]
def a170_r7 : List AOper := [⟨some 36, .ld 2 true (.t 6), none⟩,
  ⟨some 37, .mv (.t 5), none⟩,
  ⟨some 38, .mv (.t 7), none⟩,
  ⟨some 39, .call (.c (.clo 181 [])) [.t 36, .t 37, .t 38], none⟩,
  ⟨some 35, .mv (.t 39), none⟩,
  ⟨some 40, .ex (.t 35) 0, none⟩,
  ⟨some 41, .ex (.t 35) 1, none⟩,
  ⟨some 8, .mv (.t 40), none⟩,
  ⟨some 9, .mv (.t 41), none⟩]
def a170_r8 : List AOper := [⟨some 42, .mv (.t 9), none⟩,
  ⟨some 5, .mv (.t 42), none⟩]
def a170_r9 : List AOper := [⟨some 43, .ld 2 true (.t 6), none⟩,
  ⟨some 44, .mv (.t 7), none⟩,
  ⟨some 45, .fa 0 (.t 6), none⟩,
  ⟨some 46, .ld 1 false (.t 45), none⟩,
  ⟨some 47, .mv (.t 7), none⟩,
  ⟨some 48, .ia 5 (.t 46) (.t 47), none⟩,
  ⟨some 49, .ld 5 true (.t 48), none⟩,
  ⟨some 50, .mv (.t 8), none⟩,
  ⟨some 51, .call (.c (.clo 170 [])) [.t 49, .t 50], none⟩,
  ⟨some 52, .call (.c (.clo 182 [])) [.t 43, .t 44, .t 51], none⟩,
  ⟨none, .st 2 (.t 6) (.t 52), none⟩]
def a170_l1 : ACode := .seq (.seq (.reg a170_r5 false []) (.cond (.t 31) (.skip) (.exit 0))) (.block 1 (.seq (.reg a170_r6 false []) (.seq (.reg a170_r7 false []) (.seq (.reg a170_r8 false []) (.reg a170_r9 true [(0, 8)])))))
def a170_r10 : List AOper := [⟨some 53, .fa 0 (.t 6), none⟩,
  ⟨some 54, .ld 1 false (.t 53), none⟩,
  ⟨some 55, .len false (.t 54), none⟩,
  ⟨some 56, .bin .gtr (.t 55) (.c (.i .i64 4)), none⟩]
def a170_r11 : List AOper := [⟨some 57, .ld 2 true (.t 6), none⟩,
  ⟨some 58, .mv (.t 5), none⟩,
  ⟨some 59, .call (.c (.clo 183 [])) [.t 57, .t 58], none⟩,
  ⟨some 60, .call (.c (.clo 177 [])) [.t 59], none⟩,
  ⟨none, .st 2 (.t 4) (.t 60), none⟩]
def a170_r12 : List AOper := [⟨some 61, .fa 0 (.t 6), none⟩,
  ⟨some 62, .ld 1 false (.t 61), none⟩,
  ⟨some 63, .fa 1 (.t 6), none⟩,
  ⟨some 64, .ld 1 false (.t 63), none⟩,
  ⟨some 65, .mv (.t 5), none⟩,
  ⟨some 66, .build [.b false, .emp, .emp, .emp, .emp] [(3, 1, .t 62), (2, 1, .t 64), (4, 1, .t 65)], none⟩,
  ⟨some 67, .rowOf 5 [.b false, .emp, .emp, .emp, .emp] 1 [(0, .t 66)], none⟩,
  ⟨some 68, .build [.emp, .emp] [(0, 1, .t 67)], none⟩,
  ⟨none, .st 2 (.t 4) (.t 68), none⟩]
def a170 : AFn := ⟨[false, false], .seq (.reg a170_r0 false []) (.seq (.seq (.reg a170_r1 false []) (.cond (.t 11) (.seq (.reg a170_r2 false []) (.ret)) (.skip))) (.seq (.reg a170_r3 false []) (.seq (.reg a170_r4 false []) (.seq (.block 0 (.loop [] a170_l1)) (.seq (.seq (.reg a170_r10 false []) (.cond (.t 56) (.seq (.reg a170_r11 false []) (.ret)) (.skip))) (.seq (.reg a170_r12 false []) (.ret))))))), [.cell 4 2 true], []⟩
theorem reads170 : readFn Try.prog Try.f170 [false, false] [] [[]] = some a170 := by kernel_rfl
-- spec.l4Drain
def a171_r0 : List AOper := [⟨some 1, .box (.t 0), none⟩,
  ⟨some 2, .new [.emp, .emp], none⟩]
def a171_r1 : List AOper := [⟨some 7, .fa 0 (.t 1), none⟩,
  ⟨some 8, .ld 1 false (.t 7), none⟩]
def a171_r2 : List AOper := [⟨some 9, .ld 5 true (.t 1), none⟩,
  ⟨some 10, .rowOf 5 [.b false, .emp, .emp, .emp, .emp] 1 [(0, .t 9)], none⟩,
  ⟨some 11, .build [.emp, .emp] [(0, 1, .t 10)], none⟩,
  ⟨none, .st 2 (.t 2) (.t 11), none⟩]
def a171_r3 : List AOper := [⟨some 12, .fa 3 (.t 1), none⟩,
  ⟨some 13, .ld 1 false (.t 12), none⟩,
  ⟨some 14, .fa 2 (.t 1), none⟩,
  ⟨some 15, .ld 1 false (.t 14), none⟩,
  ⟨some 16, .build [.emp, .emp] [(0, 1, .t 13), (1, 1, .t 15)], none⟩,
  ⟨some 17, .fa 4 (.t 1), none⟩,
  ⟨some 18, .ld 1 false (.t 17), none⟩,
  ⟨some 19, .call (.c (.clo 183 [])) [.t 16, .t 18], none⟩,
  ⟨some 3, .new [.emp, .emp], none⟩,
  ⟨none, .st 2 (.t 3) (.t 19), none⟩]
def a171_r4 : List AOper := [⟨some 20, .build [.emp, .emp] [], none⟩,
  ⟨some 4, .new [.emp, .emp], none⟩,
  ⟨none, .st 2 (.t 4) (.t 20), none⟩]
def a171_r5 : List AOper := [⟨some 5, .mv (.c (.i .i64 0)), none⟩]
def a171_r6 : List AOper := [⟨some 21, .mv (.t 5), none⟩,
  ⟨some 22, .fa 0 (.t 3), none⟩,
  ⟨some 23, .ld 1 false (.t 22), none⟩,
  ⟨some 24, .len false (.t 23), none⟩,
  ⟨some 25, .bin .lss (.t 21) (.t 24), none⟩]
def a171_r8 : List AOper := [⟨some 28, .fa 0 (.t 3), none⟩,
  ⟨some 29, .ld 1 false (.t 28), none⟩,
  ⟨some 30, .mv (.t 5), none⟩,
  ⟨some 31, .ia 5 (.t 29) (.t 30), none⟩,
  ⟨some 32, .ld 5 true (.t 31), none⟩,
  ⟨some 33, .call (.c (.clo 171 [])) [.t 32], none⟩,
  ⟨some 6, .new [.emp, .emp], none⟩,
  ⟨none, .st 2 (.t 6) (.t 33), none⟩]
def a171_r9 : List AOper := [⟨some 34, .mv (.t 5), none⟩,
  ⟨some 35, .bin .gtr (.t 34) (.c (.i .i64 0)), none⟩]
def a171_r10 : List AOper := [⟨some 36, .fa 1 (.t 4), none⟩,
  ⟨some 37, .ld 1 false (.t 36), none⟩,
  ⟨some 38, .fa 1 (.t 3), none⟩,
  ⟨some 39, .ld 1 false (.t 38), none⟩,
  ⟨some 40, .mv (.t 5), none⟩,
  ⟨some 41, .bin .sub (.t 40) (.c (.i .i64 1)), none⟩,
  ⟨some 42, .ia 1 (.t 39) (.t 41), none⟩,
  ⟨some 43, .ld 1 false (.t 42), none⟩,
  ⟨some 44, .rowOf 1 [.i .i64 0] 1 [(0, .t 43)], none⟩,
  ⟨some 45, .ap 1 8 (.t 37) (.t 44), none⟩,
  ⟨some 46, .fa 1 (.t 4), none⟩,
  ⟨none, .st 1 (.t 46) (.t 45), none⟩]
def a171_r11 : List AOper := [⟨some 47, .fa 0 (.t 4), none⟩,
  ⟨some 48, .ld 1 false (.t 47), none⟩,
  ⟨some 49, .fa 0 (.t 6), none⟩,
  ⟨some 50, .ld 1 false (.t 49), none⟩,
  ⟨some 51, .ap 5 104 (.t 48) (.t 50), none⟩,
  ⟨some 52, .fa 0 (.t 4), none⟩,
  ⟨none, .st 1 (.t 52) (.t 51), none⟩]
def a171_r12 : List AOper := [⟨some 53, .fa 1 (.t 4), none⟩,
  ⟨some 54, .ld 1 false (.t 53), none⟩,
  ⟨some 55, .fa 1 (.t 6), none⟩,
  ⟨some 56, .ld 1 false (.t 55), none⟩,
  ⟨some 57, .ap 1 8 (.t 54) (.t 56), none⟩,
  ⟨some 58, .fa 1 (.t 4), none⟩,
  ⟨none, .st 1 (.t 58) (.t 57), none⟩]
def a171_r7 : List AOper := [⟨some 26, .mv (.t 5), none⟩,
  ⟨some 27, .bin .add (.t 26) (.c (.i .i64 1)), none⟩,
  ⟨some 5, .mv (.t 27), none⟩]
def a171_l1 : ACode := .seq (.seq (.reg a171_r6 false []) (.cond (.t 25) (.skip) (.exit 0))) (.seq (.block 1 (.seq (.reg a171_r8 false []) (.seq (.seq (.reg a171_r9 false []) (.cond (.t 35) (.reg a171_r10 true [(1, 8)]) (.skip))) (.seq (.reg a171_r11 false []) (.reg a171_r12 false []))))) (.reg a171_r7 false []))
def a171_r13 : List AOper := [⟨some 59, .fa 0 (.t 4), none⟩,
  ⟨some 60, .ld 1 false (.t 59), none⟩,
  ⟨some 61, .len false (.t 60), none⟩,
  ⟨some 62, .bin .gtr (.t 61) (.c (.i .i64 4)), none⟩]
def a171_r14 : List AOper := [⟨some 63, .ld 2 true (.t 4), none⟩,
  ⟨some 64, .call (.c (.clo 177 [])) [.t 63], none⟩,
  ⟨none, .st 2 (.t 2) (.t 64), none⟩]
def a171_r15 : List AOper := [⟨some 65, .fa 0 (.t 4), none⟩,
  ⟨some 66, .ld 1 false (.t 65), none⟩,
  ⟨some 67, .fa 1 (.t 4), none⟩,
  ⟨some 68, .ld 1 false (.t 67), none⟩,
  ⟨some 69, .build [.b false, .emp, .emp, .emp, .emp] [(3, 1, .t 66), (2, 1, .t 68)], none⟩,
  ⟨some 70, .rowOf 5 [.b false, .emp, .emp, .emp, .emp] 1 [(0, .t 69)], none⟩,
  ⟨some 71, .build [.emp, .emp] [(0, 1, .t 70)], none⟩,
  ⟨none, .st 2 (.t 2) (.t 71), none⟩]
def a171 : AFn := ⟨[false], .seq (.reg a171_r0 false []) (.seq (.seq (.reg a171_r1 false []) (.cond (.t 8) (.seq (.reg a171_r2 false []) (.ret)) (.skip))) (.seq (.reg a171_r3 false []) (.seq (.reg a171_r4 false []) (.seq (.seq (.reg a171_r5 false []) (.block 0 (.loop [] a171_l1))) (.seq (.seq (.reg a171_r13 false []) (.cond (.t 62) (.seq (.reg a171_r14 false []) (.ret)) (.skip))) (.seq (.reg a171_r15 false []) (.ret))))))), [.cell 2 2 true], []⟩
theorem reads171 : readFn Try.prog Try.f171 [false] [] [[]] = some a171 := by kernel_rfl
-- slices.rotateRight[impl.Pair]
def a173_r0 : List AOper := [⟨some 4, .mv (.t 0), none⟩,
  ⟨some 5, .mv (.t 0), none⟩,
  ⟨some 6, .len false (.t 5), none⟩,
  ⟨some 7, .mv (.t 1), none⟩,
  ⟨some 8, .bin .sub (.t 6) (.t 7), none⟩,
  ⟨some 9, .call (.c (.clo 184 [])) [.t 4, .t 8], none⟩]
def a173 : AFn := ⟨[false, false], .reg a173_r0 false [], [], []⟩
theorem reads173 : readFn Try.prog Try.f173 [false, false] [] [] = some a173 := by kernel_rfl
-- spec.l1Min
def a174_r0 : List AOper := [⟨some 4, .mv (.c (.i .i64 0)), none⟩]
def a174_r1 : List AOper := [⟨some 5, .mv (.t 0), none⟩,
  ⟨some 6, .mv (.t 1), none⟩,
  ⟨some 7, .bin .lss (.t 5) (.t 6), none⟩]
def a174_r2 : List AOper := [⟨some 8, .mv (.t 0), none⟩,
  ⟨some 4, .mv (.t 8), none⟩]
def a174_r3 : List AOper := [⟨some 9, .mv (.t 1), none⟩,
  ⟨some 4, .mv (.t 9), none⟩]
def a174 : AFn := ⟨[false, false], .seq (.reg a174_r0 false []) (.seq (.seq (.reg a174_r1 false []) (.cond (.t 7) (.seq (.reg a174_r2 false []) (.ret)) (.skip))) (.seq (.reg a174_r3 false []) (.ret))), [.t 4], []⟩
theorem reads174 : readFn Try.prog Try.f174 [false, false] [] [] = some a174 := by kernel_rfl
-- spec.l4Pack
def a177_r0 : List AOper := [⟨some 1, .box (.t 0), none⟩,
  ⟨some 2, .new [.emp, .emp], none⟩]
def a177_r1 : List AOper := [⟨some 7, .build [.emp, .emp] [], none⟩,
  ⟨some 3, .new [.emp, .emp], none⟩,
  ⟨none, .st 2 (.t 3) (.t 7), none⟩]
def a177_r2 : List AOper := [⟨some 8, .fa 0 (.t 1), none⟩,
  ⟨some 9, .ld 1 false (.t 8), none⟩,
  ⟨some 10, .len false (.t 9), none⟩,
  ⟨some 4, .mv (.t 10), none⟩]
def a177_r3 : List AOper := [⟨some 5, .mv (.c (.i .i64 0)), none⟩]
def a177_r4 : List AOper := [⟨some 11, .mv (.t 5), none⟩,
  ⟨some 12, .mv (.t 4), none⟩,
  ⟨some 13, .bin .lss (.t 11) (.t 12), none⟩]
def a177_r5 : List AOper := [⟨some 6, .mv (.c (.i .i64 2)), none⟩]
def a177_r6 : List AOper := [⟨some 14, .mv (.t 4), none⟩,
  ⟨some 15, .mv (.t 5), none⟩,
  ⟨some 16, .bin .sub (.t 14) (.t 15), none⟩,
  ⟨some 17, .bin .eql (.t 16) (.c (.i .i64 3)), none⟩]
def a177_r7 : List AOper := [⟨some 6, .mv (.c (.i .i64 3)), none⟩]
def a177_r8 : List AOper := [⟨some 18, .mv (.t 5), none⟩,
  ⟨some 19, .bin .gtr (.t 18) (.c (.i .i64 0)), none⟩]
def a177_r9 : List AOper := [⟨some 20, .fa 1 (.t 3), none⟩,
  ⟨some 21, .ld 1 false (.t 20), none⟩,
  ⟨some 22, .fa 1 (.t 1), none⟩,
  ⟨some 23, .ld 1 false (.t 22), none⟩,
  ⟨some 24, .mv (.t 5), none⟩,
  ⟨some 25, .bin .sub (.t 24) (.c (.i .i64 1)), none⟩,
  ⟨some 26, .ia 1 (.t 23) (.t 25), none⟩,
  ⟨some 27, .ld 1 false (.t 26), none⟩,
  ⟨some 28, .rowOf 1 [.i .i64 0] 1 [(0, .t 27)], none⟩,
  ⟨some 29, .ap 1 8 (.t 21) (.t 28), none⟩,
  ⟨some 30, .fa 1 (.t 3), none⟩,
  ⟨none, .st 1 (.t 30) (.t 29), none⟩]
def a177_r10 : List AOper := [⟨some 31, .fa 0 (.t 3), none⟩,
  ⟨some 32, .ld 1 false (.t 31), none⟩,
  ⟨some 33, .rowOf 5 [.b false, .emp, .emp, .emp, .emp] 0 [], none⟩,
  ⟨some 34, .fa 0 (.t 1), none⟩,
  ⟨some 35, .ld 1 false (.t 34), none⟩,
  ⟨some 36, .mv (.t 5), none⟩,
  ⟨some 37, .mv (.t 5), none⟩,
  ⟨some 38, .mv (.t 6), none⟩,
  ⟨some 39, .bin .add (.t 37) (.t 38), none⟩,
  ⟨some 40, .sl 5 (.t 35) (some (.t 36)) (some (.t 39)) none, none⟩,
  ⟨some 41, .ap 5 104 (.t 33) (.t 40), none⟩,
  ⟨some 42, .rowOf 1 [.i .i64 0] 0 [], none⟩,
  ⟨some 43, .fa 1 (.t 1), none⟩,
  ⟨some 44, .ld 1 false (.t 43), none⟩,
  ⟨some 45, .mv (.t 5), none⟩,
  ⟨some 46, .mv (.t 5), none⟩,
  ⟨some 47, .mv (.t 6), none⟩,
  ⟨some 48, .bin .add (.t 46) (.t 47), none⟩,
  ⟨some 49, .bin .sub (.t 48) (.c (.i .i64 1)), none⟩,
  ⟨some 50, .sl 1 (.t 44) (some (.t 45)) (some (.t 49)) none, none⟩,
  ⟨some 51, .ap 1 8 (.t 42) (.t 50), none⟩,
  ⟨some 52, .build [.b false, .emp, .emp, .emp, .emp] [(3, 1, .t 41), (2, 1, .t 51)], none⟩,
  ⟨some 53, .rowOf 5 [.b false, .emp, .emp, .emp, .emp] 1 [(0, .t 52)], none⟩,
  ⟨some 54, .ap 5 104 (.t 32) (.t 53), none⟩,
  ⟨some 55, .fa 0 (.t 3), none⟩,
  ⟨none, .st 1 (.t 55) (.t 54), none⟩]
def a177_r11 : List AOper := [⟨some 56, .mv (.t 5), none⟩,
  ⟨some 57, .mv (.t 6), none⟩,
  ⟨some 58, .bin .add (.t 56) (.t 57), none⟩,
  ⟨some 5, .mv (.t 58), none⟩]
def a177_l1 : ACode := .seq (.seq (.reg a177_r4 false []) (.cond (.t 13) (.skip) (.exit 0))) (.block 1 (.seq (.reg a177_r5 false []) (.seq (.seq (.reg a177_r6 false []) (.cond (.t 17) (.reg a177_r7 false []) (.skip))) (.seq (.seq (.reg a177_r8 false []) (.cond (.t 19) (.reg a177_r9 true [(1, 8)]) (.skip))) (.seq (.reg a177_r10 true [(1, 2), (2, 4), (2, 9), (1, 10), (1, 11), (2, 11), (4, 11), (9, 11), (10, 11), (2, 13), (10, 13), (11, 13), (2, 19), (10, 19), (11, 19), (1, 20), (1, 22)]) (.reg a177_r11 false []))))))
def a177_r12 : List AOper := [⟨some 59, .ld 2 true (.t 3), none⟩,
  ⟨none, .st 2 (.t 2) (.t 59), none⟩]
def a177 : AFn := ⟨[false], .seq (.reg a177_r0 false []) (.seq (.reg a177_r1 false []) (.seq (.reg a177_r2 false []) (.seq (.seq (.reg a177_r3 false []) (.block 0 (.loop [] a177_l1))) (.seq (.reg a177_r12 false []) (.ret))))), [.cell 2 2 true], []⟩
theorem reads177 : readFn Try.prog Try.f177 [false] [] [[]] = some a177 := by kernel_rfl
-- spec.l4Leaf
def a178_r0 : List AOper := [⟨some 2, .new [.emp, .emp], none⟩]
def a178_r1 : List AOper := [⟨some 7, .mv (.t 0), none⟩,
  ⟨some 8, .len false (.t 7), none⟩,
  ⟨some 3, .mv (.t 8), none⟩]
def a178_r2 : List AOper := [⟨some 9, .mv (.t 3), none⟩,
  ⟨some 10, .bin .leq (.t 9) (.c (.i .i64 4)), none⟩]
def a178_r3 : List AOper := [⟨some 11, .mv (.t 0), none⟩,
  ⟨some 12, .build [.b false, .emp, .emp, .emp, .emp] [(0, 1, .c (.b true)), (1, 1, .t 11)], none⟩,
  ⟨some 13, .rowOf 5 [.b false, .emp, .emp, .emp, .emp] 1 [(0, .t 12)], none⟩,
  ⟨some 14, .build [.emp, .emp] [(0, 1, .t 13)], none⟩,
  ⟨none, .st 2 (.t 2) (.t 14), none⟩]
def a178_r4 : List AOper := [⟨some 15, .build [.emp, .emp] [], none⟩,
  ⟨some 4, .new [.emp, .emp], none⟩,
  ⟨none, .st 2 (.t 4) (.t 15), none⟩]
def a178_r5 : List AOper := [⟨some 5, .mv (.c (.i .i64 0)), none⟩]
def a178_r6 : List AOper := [⟨some 16, .mv (.t 5), none⟩,
  ⟨some 17, .mv (.t 3), none⟩,
  ⟨some 18, .bin .lss (.t 16) (.t 17), none⟩]
def a178_r7 : List AOper := [⟨some 6, .mv (.c (.i .i64 2)), none⟩]
def a178_r8 : List AOper := [⟨some 19, .mv (.t 3), none⟩,
  ⟨some 20, .mv (.t 5), none⟩,
  ⟨some 21, .bin .sub (.t 19) (.t 20), none⟩,
  ⟨some 22, .bin .eql (.t 21) (.c (.i .i64 3)), none⟩]
def a178_r9 : List AOper := [⟨some 6, .mv (.c (.i .i64 3)), none⟩]
def a178_r10 : List AOper := [⟨some 23, .mv (.t 5), none⟩,
  ⟨some 24, .bin .gtr (.t 23) (.c (.i .i64 0)), none⟩]
def a178_r11 : List AOper := [⟨some 25, .fa 1 (.t 4), none⟩,
  ⟨some 26, .ld 1 false (.t 25), none⟩,
  ⟨some 27, .mv (.t 0), none⟩,
  ⟨some 28, .mv (.t 5), none⟩,
  ⟨some 29, .ia 2 (.t 27) (.t 28), none⟩,
  ⟨some 30, .fa 0 (.t 29), none⟩,
  ⟨some 31, .ld 1 false (.t 30), none⟩,
  ⟨some 32, .rowOf 1 [.i .i64 0] 1 [(0, .t 31)], none⟩,
  ⟨some 33, .ap 1 8 (.t 26) (.t 32), none⟩,
  ⟨some 34, .fa 1 (.t 4), none⟩,
  ⟨none, .st 1 (.t 34) (.t 33), none⟩]
def a178_r12 : List AOper := [⟨some 35, .fa 0 (.t 4), none⟩,
  ⟨some 36, .ld 1 false (.t 35), none⟩,
  ⟨some 37, .rowOf 2 [.i .i64 0, .i .i64 0] 0 [], none⟩,
  ⟨some 38, .mv (.t 0), none⟩,
  ⟨some 39, .mv (.t 5), none⟩,
  ⟨some 40, .mv (.t 5), none⟩,
  ⟨some 41, .mv (.t 6), none⟩,
  ⟨some 42, .bin .add (.t 40) (.t 41), none⟩,
  ⟨some 43, .sl 2 (.t 38) (some (.t 39)) (some (.t 42)) none, none⟩,
  ⟨some 44, .ap 2 16 (.t 37) (.t 43), none⟩,
  ⟨some 45, .build [.b false, .emp, .emp, .emp, .emp] [(0, 1, .c (.b true)), (1, 1, .t 44)], none⟩,
  ⟨some 46, .rowOf 5 [.b false, .emp, .emp, .emp, .emp] 1 [(0, .t 45)], none⟩,
  ⟨some 47, .ap 5 104 (.t 36) (.t 46), none⟩,
  ⟨some 48, .fa 0 (.t 4), none⟩,
  ⟨none, .st 1 (.t 48) (.t 47), none⟩]
def a178_r13 : List AOper := [⟨some 49, .mv (.t 5), none⟩,
  ⟨some 50, .mv (.t 6), none⟩,
  ⟨some 51, .bin .add (.t 49) (.t 50), none⟩,
  ⟨some 5, .mv (.t 51), none⟩]
def a178_l1 : ACode := .seq (.seq (.reg a178_r6 false []) (.cond (.t 18) (.skip) (.exit 0))) (.block 1 (.seq (.reg a178_r7 false []) (.seq (.seq (.reg a178_r8 false []) (.cond (.t 22) (.reg a178_r9 false []) (.skip))) (.seq (.seq (.reg a178_r10 false []) (.cond (.t 24) (.reg a178_r11 true [(1, 7)]) (.skip))) (.seq (.reg a178_r12 true [(1, 2), (2, 8), (1, 9), (1, 11)]) (.reg a178_r13 false []))))))
def a178_r14 : List AOper := [⟨some 52, .ld 2 true (.t 4), none⟩,
  ⟨none, .st 2 (.t 2) (.t 52), none⟩]
def a178 : AFn := ⟨[false], .seq (.reg a178_r0 false []) (.seq (.reg a178_r1 false []) (.seq (.seq (.reg a178_r2 false []) (.cond (.t 10) (.seq (.reg a178_r3 false []) (.ret)) (.skip))) (.seq (.reg a178_r4 false []) (.seq (.seq (.reg a178_r5 false []) (.block 0 (.loop [] a178_l1))) (.seq (.reg a178_r14 false []) (.ret)))))), [.cell 2 2 true], []⟩
theorem reads178 : readFn Try.prog Try.f178 [false] [] [[]] = some a178 := by kernel_rfl
-- spec.Shrink
def a179_r0 : List AOper := [⟨some 2, .mv (.c (.emp)), none⟩]
def a179_r1 : List AOper := [⟨some 7, .rowOf 3 [.i .i64 0, .i .i64 0, .i .i64 0] 0 [], none⟩,
  ⟨some 3, .mv (.t 7), none⟩]
def a179_r2 : List AOper := [⟨some 4, .mv (.c (.i .i64 0)), none⟩]
def a179_r3 : List AOper := [⟨some 8, .mv (.t 4), none⟩,
  ⟨some 9, .mv (.t 0), none⟩,
  ⟨some 10, .len false (.t 9), none⟩,
  ⟨some 11, .bin .lss (.t 8) (.t 10), none⟩]
def a179_r5 : List AOper := [⟨some 14, .mv (.t 0), none⟩,
  ⟨some 15, .mv (.t 4), none⟩,
  ⟨some 16, .ia 3 (.t 14) (.t 15), none⟩,
  ⟨some 17, .ld 3 true (.t 16), none⟩,
  ⟨some 5, .new [.i .i64 0, .i .i64 0, .i .i64 0], none⟩,
  ⟨none, .st 3 (.t 5) (.t 17), none⟩]
def a179_r6 : List AOper := [⟨some 18, .ld 3 true (.t 5), none⟩,
  ⟨some 19, .call (.c (.clo 123 [])) [.t 18], none⟩,
  ⟨some 20, .un .not (.t 19), none⟩,
  ⟨some 21, .mv (.t 20), none⟩,
  ⟨some 22, .fa 0 (.t 5), some (21, false)⟩,
  ⟨some 23, .ld 1 false (.t 22), some (21, false)⟩,
  ⟨some 24, .bin .eql (.t 23) (.c (.i .i64 4)), some (21, false)⟩,
  ⟨some 25, .pick (.t 21) (.c (.b true)) (.t 24), none⟩,
  ⟨some 26, .mv (.t 25), none⟩,
  ⟨some 27, .mv (.t 0), some (26, false)⟩,
  ⟨some 28, .mv (.t 4), some (26, false)⟩,
  ⟨some 29, .call (.c (.clo 186 [])) [.t 27, .t 28], some (26, false)⟩,
  ⟨some 30, .pick (.t 26) (.c (.b true)) (.t 29), none⟩]
def a179_r7 : List AOper := [⟨some 31, .mv (.t 3), none⟩,
  ⟨some 32, .fa 1 (.t 5), none⟩,
  ⟨some 33, .ld 1 false (.t 32), none⟩,
  ⟨some 34, .call (.c (.clo 187 [])) [.t 31, .t 33], none⟩,
  ⟨some 6, .mv (.t 34), none⟩]
def a179_r8 : List AOper := [⟨some 35, .mv (.t 6), none⟩,
  ⟨some 36, .bin .geq (.t 35) (.c (.i .i64 0)), none⟩,
  ⟨some 37, .mv (.t 36), none⟩,
  ⟨some 38, .mv (.t 3), some (37, true)⟩,
  ⟨some 39, .mv (.t 6), some (37, true)⟩,
  ⟨some 40, .ia 3 (.t 38) (.t 39), some (37, true)⟩,
  ⟨some 41, .fa 0 (.t 40), some (37, true)⟩,
  ⟨some 42, .ld 1 false (.t 41), some (37, true)⟩,
  ⟨some 43, .bin .eql (.t 42) (.c (.i .i64 1)), some (37, true)⟩,
  ⟨some 44, .pick (.t 37) (.t 43) (.c (.b false)), none⟩,
  ⟨some 45, .mv (.t 44), none⟩,
  ⟨some 46, .fa 0 (.t 5), some (45, true)⟩,
  ⟨some 47, .ld 1 false (.t 46), some (45, true)⟩,
  ⟨some 48, .bin .eql (.t 47) (.c (.i .i64 3)), some (45, true)⟩,
  ⟨some 49, .pick (.t 45) (.t 48) (.c (.b false)), none⟩]
def a179_r9 : List AOper := [⟨some 50, .mv (.t 3), none⟩,
  ⟨some 51, .mv (.t 6), none⟩,
  ⟨some 52, .mv (.t 3), none⟩,
  ⟨some 53, .mv (.t 6), none⟩,
  ⟨some 54, .ia 3 (.t 52) (.t 53), none⟩,
  ⟨some 55, .fa 2 (.t 54), none⟩,
  ⟨some 56, .ld 1 false (.t 55), none⟩,
  ⟨some 57, .fa 2 (.t 5), none⟩,
  ⟨some 58, .ld 1 false (.t 57), none⟩,
  ⟨some 59, .bin .add (.t 56) (.t 58), none⟩,
  ⟨some 60, .call (.c (.clo 161 [])) [.t 59], none⟩,
  ⟨some 61, .ia 3 (.t 50) (.t 51), none⟩,
  ⟨some 62, .fa 2 (.t 61), none⟩,
  ⟨none, .st 1 (.t 62) (.t 60), none⟩]
def a179_r10 : List AOper := [⟨some 63, .mv (.t 3), none⟩,
  ⟨some 64, .ld 3 true (.t 5), none⟩,
  ⟨some 65, .rowOf 3 [.i .i64 0, .i .i64 0, .i .i64 0] 1 [(0, .t 64)], none⟩,
  ⟨some 66, .ap 3 24 (.t 63) (.t 65), none⟩,
  ⟨some 3, .mv (.t 66), none⟩]
def a179_r4 : List AOper := [⟨some 12, .mv (.t 4), none⟩,
  ⟨some 13, .bin .add (.t 12) (.c (.i .i64 1)), none⟩,
  ⟨some 4, .mv (.t 13), none⟩]
def a179_l1 : ACode := .seq (.seq (.reg a179_r3 false []) (.cond (.t 11) (.skip) (.exit 0))) (.seq (.block 1 (.seq (.reg a179_r5 false []) (.seq (.seq (.reg a179_r6 false []) (.cond (.t 30) (.exit 1) (.skip))) (.seq (.reg a179_r7 false []) (.seq (.seq (.reg a179_r8 false []) (.cond (.t 49) (.seq (.reg a179_r9 true []) (.exit 1)) (.skip))) (.reg a179_r10 false [])))))) (.reg a179_r4 false []))
def a179_r11 : List AOper := [⟨some 67, .mv (.t 3), none⟩,
  ⟨some 2, .mv (.t 67), none⟩]
def a179 : AFn := ⟨[false], .seq (.reg a179_r0 false []) (.seq (.reg a179_r1 false []) (.seq (.seq (.reg a179_r2 false []) (.block 0 (.loop [] a179_l1))) (.seq (.reg a179_r11 false []) (.ret)))), [.t 2], []⟩
theorem reads179 : readFn Try.prog Try.f179 [false] [] [[]] = some a179 := by kernel_rfl
-- spec.l4Most
def a180_r0 : List AOper := [⟨some 2, .box (.t 0), none⟩,
  ⟨some 4, .mv (.c (.i .i64 0)), none⟩]
def a180_r1 : List AOper := [⟨some 5, .mv (.c (.i .i64 0)), none⟩,
  ⟨some 6, .mv (.c (.i .i64 (-1))), none⟩]
def a180_r2 : List AOper := [⟨some 7, .mv (.c (.i .i64 0)), none⟩]
def a180_r3 : List AOper := [⟨some 10, .mv (.t 7), none⟩,
  ⟨some 11, .fa 0 (.t 2), none⟩,
  ⟨some 12, .ld 1 false (.t 11), none⟩,
  ⟨some 13, .len false (.t 12), none⟩,
  ⟨some 14, .bin .lss (.t 10) (.t 13), none⟩]
def a180_r5 : List AOper := [⟨some 18, .ld 2 true (.t 2), none⟩,
  ⟨some 19, .mv (.t 1), none⟩,
  ⟨some 20, .mv (.t 7), none⟩,
  ⟨some 21, .call (.c (.clo 181 [])) [.t 18, .t 19, .t 20], none⟩,
  ⟨some 17, .mv (.t 21), none⟩,
  ⟨some 22, .ex (.t 17) 0, none⟩,
  ⟨some 23, .ex (.t 17) 1, none⟩,
  ⟨some 8, .mv (.t 22), none⟩,
  ⟨some 9, .mv (.t 23), none⟩]
def a180_r6 : List AOper := [⟨some 24, .mv (.t 8), none⟩,
  ⟨some 25, .len false (.t 24), none⟩,
  ⟨some 26, .mv (.t 6), none⟩,
  ⟨some 27, .bin .gtr (.t 25) (.t 26), none⟩]
def a180_r7 : List AOper := [⟨some 28, .mv (.t 7), none⟩,
  ⟨some 5, .mv (.t 28), none⟩]
def a180_r8 : List AOper := [⟨some 29, .mv (.t 8), none⟩,
  ⟨some 30, .len false (.t 29), none⟩,
  ⟨some 6, .mv (.t 30), none⟩]
def a180_r4 : List AOper := [⟨some 15, .mv (.t 7), none⟩,
  ⟨some 16, .bin .add (.t 15) (.c (.i .i64 1)), none⟩,
  ⟨some 7, .mv (.t 16), none⟩]
def a180_l1 : ACode := .seq (.seq (.reg a180_r3 false []) (.cond (.t 14) (.skip) (.exit 0))) (.seq (.block 1 (.seq (.reg a180_r5 false []) (.seq (.reg a180_r6 false []) (.cond (.t 27) (.seq (.reg a180_r7 false []) (.reg a180_r8 false [])) (.skip))))) (.reg a180_r4 false []))
def a180_r9 : List AOper := [⟨some 31, .mv (.t 5), none⟩,
  ⟨some 4, .mv (.t 31), none⟩]
def a180 : AFn := ⟨[false, false], .seq (.reg a180_r0 false []) (.seq (.reg a180_r1 false []) (.seq (.seq (.reg a180_r2 false []) (.block 0 (.loop [] a180_l1))) (.seq (.reg a180_r9 false []) (.ret)))), [.t 4], []⟩
theorem reads180 : readFn Try.prog Try.f180 [false, false] [] [[]] = some a180 := by kernel_rfl
-- spec.l4Split
def a181_r0 : List AOper := [⟨some 3, .box (.t 0), none⟩,
  ⟨some 6, .mv (.c (.emp)), none⟩,
  ⟨some 7, .mv (.c (.emp)), none⟩]
def a181_r1 : List AOper := [⟨some 11, .rowOf 3 [.i .i64 0, .i .i64 0, .i .i64 0] 0 [], none⟩,
  ⟨some 12, .rowOf 3 [.i .i64 0, .i .i64 0, .i .i64 0] 0 [], none⟩,
  ⟨some 8, .mv (.t 11), none⟩,
  ⟨some 9, .mv (.t 12), none⟩]
def a181_r2 : List AOper := [⟨some 10, .mv (.c (.i .i64 0)), none⟩]
def a181_r3 : List AOper := [⟨some 13, .mv (.t 10), none⟩,
  ⟨some 14, .mv (.t 1), none⟩,
  ⟨some 15, .len false (.t 14), none⟩,
  ⟨some 16, .bin .lss (.t 13) (.t 15), none⟩]
def a181_r5 : List AOper := [⟨some 19, .ld 2 true (.t 3), none⟩,
  ⟨some 20, .mv (.t 1), none⟩,
  ⟨some 21, .mv (.t 10), none⟩,
  ⟨some 22, .ia 3 (.t 20) (.t 21), none⟩,
  ⟨some 23, .fa 1 (.t 22), none⟩,
  ⟨some 24, .ld 1 false (.t 23), none⟩,
  ⟨some 25, .call (.c (.clo 188 [])) [.t 19, .t 24], none⟩,
  ⟨some 26, .mv (.t 2), none⟩,
  ⟨some 27, .bin .eql (.t 25) (.t 26), none⟩]
def a181_r6 : List AOper := [⟨some 28, .mv (.t 8), none⟩,
  ⟨some 29, .mv (.t 1), none⟩,
  ⟨some 30, .mv (.t 10), none⟩,
  ⟨some 31, .ia 3 (.t 29) (.t 30), none⟩,
  ⟨some 32, .ld 3 true (.t 31), none⟩,
  ⟨some 33, .rowOf 3 [.i .i64 0, .i .i64 0, .i .i64 0] 1 [(0, .t 32)], none⟩,
  ⟨some 34, .ap 3 24 (.t 28) (.t 33), none⟩,
  ⟨some 8, .mv (.t 34), none⟩]
def a181_r7 : List AOper := [⟨some 35, .mv (.t 9), none⟩,
  ⟨some 36, .mv (.t 1), none⟩,
  ⟨some 37, .mv (.t 10), none⟩,
  ⟨some 38, .ia 3 (.t 36) (.t 37), none⟩,
  ⟨some 39, .ld 3 true (.t 38), none⟩,
  ⟨some 40, .rowOf 3 [.i .i64 0, .i .i64 0, .i .i64 0] 1 [(0, .t 39)], none⟩,
  ⟨some 41, .ap 3 24 (.t 35) (.t 40), none⟩,
  ⟨some 9, .mv (.t 41), none⟩]
def a181_r4 : List AOper := [⟨some 17, .mv (.t 10), none⟩,
  ⟨some 18, .bin .add (.t 17) (.c (.i .i64 1)), none⟩,
  ⟨some 10, .mv (.t 18), none⟩]
def a181_l1 : ACode := .seq (.seq (.reg a181_r3 false []) (.cond (.t 16) (.skip) (.exit 0))) (.seq (.block 1 (.seq (.reg a181_r5 true []) (.cond (.t 27) (.reg a181_r6 false []) (.reg a181_r7 false [])))) (.reg a181_r4 false []))
def a181_r8 : List AOper := [⟨some 42, .mv (.t 8), none⟩,
  ⟨some 43, .mv (.t 9), none⟩,
  ⟨some 6, .mv (.t 42), none⟩,
  ⟨some 7, .mv (.t 43), none⟩]
def a181 : AFn := ⟨[false, false, false], .seq (.reg a181_r0 false []) (.seq (.reg a181_r1 false []) (.seq (.seq (.reg a181_r2 false []) (.block 0 (.loop [] a181_l1))) (.seq (.reg a181_r8 false []) (.ret)))), [.t 6, .t 7], []⟩
theorem reads181 : readFn Try.prog Try.f181 [false, false, false] [] [[]] = some a181 := by kernel_rfl
-- spec.l4Put
def a182_r0 : List AOper := [⟨some 3, .box (.t 0), none⟩,
  ⟨some 5, .box (.t 2), none⟩,
  ⟨some 6, .new [.emp, .emp], none⟩]
def a182_r1 : List AOper := [⟨some 8, .rowOf 5 [.b false, .emp, .emp, .emp, .emp] 0 [], none⟩,
  ⟨some 9, .fa 0 (.t 3), none⟩,
  ⟨some 10, .ld 1 false (.t 9), none⟩,
  ⟨some 11, .mv (.t 1), none⟩,
  ⟨some 12, .sl 5 (.t 10) none (some (.t 11)) none, none⟩,
  ⟨some 13, .ap 5 104 (.t 8) (.t 12), none⟩,
  ⟨some 14, .rowOf 1 [.i .i64 0] 0 [], none⟩,
  ⟨some 15, .fa 1 (.t 3), none⟩,
  ⟨some 16, .ld 1 false (.t 15), none⟩,
  ⟨some 17, .mv (.t 1), none⟩,
  ⟨some 18, .sl 1 (.t 16) none (some (.t 17)) none, none⟩,
  ⟨some 19, .ap 1 8 (.t 14) (.t 18), none⟩,
  ⟨some 20, .build [.emp, .emp] [(0, 1, .t 13), (1, 1, .t 19)], none⟩,
  ⟨some 7, .new [.emp, .emp], none⟩,
  ⟨none, .st 2 (.t 7) (.t 20), none⟩]
def a182_r2 : List AOper := [⟨some 21, .fa 0 (.t 7), none⟩,
  ⟨some 22, .ld 1 false (.t 21), none⟩,
  ⟨some 23, .fa 0 (.t 5), none⟩,
  ⟨some 24, .ld 1 false (.t 23), none⟩,
  ⟨some 25, .ap 5 104 (.t 22) (.t 24), none⟩,
  ⟨some 26, .fa 0 (.t 3), none⟩,
  ⟨some 27, .ld 1 false (.t 26), none⟩,
  ⟨some 28, .mv (.t 1), none⟩,
  ⟨some 29, .bin .add (.t 28) (.c (.i .i64 1)), none⟩,
  ⟨some 30, .sl 5 (.t 27) (some (.t 29)) none none, none⟩,
  ⟨some 31, .ap 5 104 (.t 25) (.t 30), none⟩,
  ⟨some 32, .fa 0 (.t 7), none⟩,
  ⟨none, .st 1 (.t 32) (.t 31), none⟩]
def a182_r3 : List AOper := [⟨some 33, .fa 1 (.t 7), none⟩,
  ⟨some 34, .ld 1 false (.t 33), none⟩,
  ⟨some 35, .fa 1 (.t 5), none⟩,
  ⟨some 36, .ld 1 false (.t 35), none⟩,
  ⟨some 37, .ap 1 8 (.t 34) (.t 36), none⟩,
  ⟨some 38, .fa 1 (.t 3), none⟩,
  ⟨some 39, .ld 1 false (.t 38), none⟩,
  ⟨some 40, .mv (.t 1), none⟩,
  ⟨some 41, .sl 1 (.t 39) (some (.t 40)) none none, none⟩,
  ⟨some 42, .ap 1 8 (.t 37) (.t 41), none⟩,
  ⟨some 43, .fa 1 (.t 7), none⟩,
  ⟨none, .st 1 (.t 43) (.t 42), none⟩]
def a182_r4 : List AOper := [⟨some 44, .ld 2 true (.t 7), none⟩,
  ⟨none, .st 2 (.t 6) (.t 44), none⟩]
def a182 : AFn := ⟨[false, false, false], .seq (.reg a182_r0 false []) (.seq (.reg a182_r1 true [(0, 2), (0, 4), (0, 6), (2, 6), (4, 6), (5, 6), (0, 8), (5, 8), (6, 8), (0, 10), (5, 10), (6, 10), (0, 13), (2, 13), (4, 13), (5, 13), (6, 13), (8, 13), (10, 13), (11, 13)]) (.seq (.reg a182_r2 true [(4, 6), (4, 9)]) (.seq (.reg a182_r3 true [(4, 6), (4, 8)]) (.seq (.reg a182_r4 false []) (.ret))))), [.cell 6 2 true], []⟩
theorem reads182 : readFn Try.prog Try.f182 [false, false, false] [] [] = some a182 := by kernel_rfl
-- spec.l4Down
def a183_r0 : List AOper := [⟨some 2, .box (.t 0), none⟩,
  ⟨some 4, .new [.emp, .emp], none⟩]
def a183_r1 : List AOper := [⟨some 10, .build [.emp, .emp] [], none⟩,
  ⟨some 5, .new [.emp, .emp], none⟩,
  ⟨none, .st 2 (.t 5) (.t 10), none⟩]
def a183_r2 : List AOper := [⟨some 6, .mv (.c (.i .i64 0)), none⟩]
def a183_r3 : List AOper := [⟨some 11, .mv (.t 6), none⟩,
  ⟨some 12, .fa 0 (.t 2), none⟩,
  ⟨some 13, .ld 1 false (.t 12), none⟩,
  ⟨some 14, .len false (.t 13), none⟩,
  ⟨some 15, .bin .lss (.t 11) (.t 14), none⟩]
def a183_r5 : List AOper := [⟨some 19, .ld 2 true (.t 2), none⟩,
  ⟨some 20, .mv (.t 1), none⟩,
  ⟨some 21, .mv (.t 6), none⟩,
  ⟨some 22, .call (.c (.clo 181 [])) [.t 19, .t 20, .t 21], none⟩,
  ⟨some 18, .mv (.t 22), none⟩,
  ⟨some 23, .ex (.t 18) 0, none⟩,
  ⟨some 24, .ex (.t 18) 1, none⟩,
  ⟨some 7, .mv (.t 23), none⟩,
  ⟨some 8, .mv (.t 24), none⟩]
def a183_r6 : List AOper := [⟨some 25, .fa 0 (.t 2), none⟩,
  ⟨some 26, .ld 1 false (.t 25), none⟩,
  ⟨some 27, .mv (.t 6), none⟩,
  ⟨some 28, .ia 5 (.t 26) (.t 27), none⟩,
  ⟨some 29, .ld 5 true (.t 28), none⟩,
  ⟨some 30, .rowOf 5 [.b false, .emp, .emp, .emp, .emp] 1 [(0, .t 29)], none⟩,
  ⟨some 31, .build [.emp, .emp] [(0, 1, .t 30)], none⟩,
  ⟨some 9, .new [.emp, .emp], none⟩,
  ⟨none, .st 2 (.t 9) (.t 31), none⟩]
def a183_r7 : List AOper := [⟨some 32, .mv (.t 7), none⟩,
  ⟨some 33, .len false (.t 32), none⟩,
  ⟨some 34, .bin .gtr (.t 33) (.c (.i .i64 0)), none⟩]
def a183_r8 : List AOper := [⟨some 35, .fa 0 (.t 2), none⟩,
  ⟨some 36, .ld 1 false (.t 35), none⟩,
  ⟨some 37, .mv (.t 6), none⟩,
  ⟨some 38, .ia 5 (.t 36) (.t 37), none⟩,
  ⟨some 39, .ld 5 true (.t 38), none⟩,
  ⟨some 40, .mv (.t 7), none⟩,
  ⟨some 41, .call (.c (.clo 170 [])) [.t 39, .t 40], none⟩,
  ⟨none, .st 2 (.t 9) (.t 41), none⟩]
def a183_r9 : List AOper := [⟨some 42, .mv (.t 6), none⟩,
  ⟨some 43, .bin .gtr (.t 42) (.c (.i .i64 0)), none⟩]
def a183_r10 : List AOper := [⟨some 44, .fa 1 (.t 5), none⟩,
  ⟨some 45, .ld 1 false (.t 44), none⟩,
  ⟨some 46, .fa 1 (.t 2), none⟩,
  ⟨some 47, .ld 1 false (.t 46), none⟩,
  ⟨some 48, .mv (.t 6), none⟩,
  ⟨some 49, .bin .sub (.t 48) (.c (.i .i64 1)), none⟩,
  ⟨some 50, .ia 1 (.t 47) (.t 49), none⟩,
  ⟨some 51, .ld 1 false (.t 50), none⟩,
  ⟨some 52, .rowOf 1 [.i .i64 0] 1 [(0, .t 51)], none⟩,
  ⟨some 53, .ap 1 8 (.t 45) (.t 52), none⟩,
  ⟨some 54, .fa 1 (.t 5), none⟩,
  ⟨none, .st 1 (.t 54) (.t 53), none⟩]
def a183_r11 : List AOper := [⟨some 55, .fa 0 (.t 5), none⟩,
  ⟨some 56, .ld 1 false (.t 55), none⟩,
  ⟨some 57, .fa 0 (.t 9), none⟩,
  ⟨some 58, .ld 1 false (.t 57), none⟩,
  ⟨some 59, .ap 5 104 (.t 56) (.t 58), none⟩,
  ⟨some 60, .fa 0 (.t 5), none⟩,
  ⟨none, .st 1 (.t 60) (.t 59), none⟩]
def a183_r12 : List AOper := [⟨some 61, .fa 1 (.t 5), none⟩,
  ⟨some 62, .ld 1 false (.t 61), none⟩,
  ⟨some 63, .fa 1 (.t 9), none⟩,
  ⟨some 64, .ld 1 false (.t 63), none⟩,
  ⟨some 65, .ap 1 8 (.t 62) (.t 64), none⟩,
  ⟨some 66, .fa 1 (.t 5), none⟩,
  ⟨none, .st 1 (.t 66) (.t 65), none⟩]
def a183_r4 : List AOper := [⟨some 16, .mv (.t 6), none⟩,
  ⟨some 17, .bin .add (.t 16) (.c (.i .i64 1)), none⟩,
  ⟨some 6, .mv (.t 17), none⟩]
def a183_l1 : ACode := .seq (.seq (.reg a183_r3 false []) (.cond (.t 15) (.skip) (.exit 0))) (.seq (.block 1 (.seq (.reg a183_r5 false []) (.seq (.reg a183_r6 false []) (.seq (.seq (.reg a183_r7 false []) (.cond (.t 34) (.reg a183_r8 false []) (.skip))) (.seq (.seq (.reg a183_r9 false []) (.cond (.t 43) (.reg a183_r10 true [(1, 8)]) (.skip))) (.seq (.reg a183_r11 false []) (.reg a183_r12 false []))))))) (.reg a183_r4 false []))
def a183_r13 : List AOper := [⟨some 67, .ld 2 true (.t 5), none⟩,
  ⟨none, .st 2 (.t 4) (.t 67), none⟩]
def a183 : AFn := ⟨[false, false], .seq (.reg a183_r0 false []) (.seq (.reg a183_r1 false []) (.seq (.seq (.reg a183_r2 false []) (.block 0 (.loop [] a183_l1))) (.seq (.reg a183_r13 false []) (.ret)))), [.cell 4 2 true], []⟩
theorem reads183 : readFn Try.prog Try.f183 [false, false] [] [[]] = some a183 := by kernel_rfl
-- slices.rotateLeft[impl.Pair]
def a184_r0 : List AOper := [⟨some 4, .mv (.t 0), none⟩,
  ⟨some 5, .mv (.t 1), none⟩,
  ⟨some 6, .sl 2 (.t 4) none (some (.t 5)) none, none⟩,
  ⟨some 7, .call (.c (.clo 189 [])) [.t 6], none⟩]
def a184_r1 : List AOper := [⟨some 8, .mv (.t 0), none⟩,
  ⟨some 9, .mv (.t 1), none⟩,
  ⟨some 10, .sl 2 (.t 8) (some (.t 9)) none none, none⟩,
  ⟨some 11, .call (.c (.clo 189 [])) [.t 10], none⟩]
def a184_r2 : List AOper := [⟨some 12, .mv (.t 0), none⟩,
  ⟨some 13, .call (.c (.clo 189 [])) [.t 12], none⟩]
def a184 : AFn := ⟨[false, false], .seq (.reg a184_r0 false []) (.seq (.reg a184_r1 false []) (.reg a184_r2 false [])), [], []⟩
theorem reads184 : readFn Try.prog Try.f184 [false, false] [] [] = some a184 := by kernel_rfl
-- spec.l1Over
def a186_r0 : List AOper := [⟨some 4, .mv (.c (.b false)), none⟩]
def a186_r1 : List AOper := [⟨some 6, .mv (.t 1), none⟩,
  ⟨some 7, .bin .add (.t 6) (.c (.i .i64 1)), none⟩,
  ⟨some 5, .mv (.t 7), none⟩]
def a186_r2 : List AOper := [⟨some 8, .mv (.t 5), none⟩,
  ⟨some 9, .mv (.t 0), none⟩,
  ⟨some 10, .len false (.t 9), none⟩,
  ⟨some 11, .bin .lss (.t 8) (.t 10), none⟩]
def a186_r4 : List AOper := [⟨some 14, .mv (.t 0), none⟩,
  ⟨some 15, .mv (.t 5), none⟩,
  ⟨some 16, .ia 3 (.t 14) (.t 15), none⟩,
  ⟨some 17, .ld 3 true (.t 16), none⟩,
  ⟨some 18, .call (.c (.clo 123 [])) [.t 17], none⟩,
  ⟨some 19, .mv (.t 18), none⟩,
  ⟨some 20, .mv (.t 0), some (19, true)⟩,
  ⟨some 21, .mv (.t 5), some (19, true)⟩,
  ⟨some 22, .ia 3 (.t 20) (.t 21), some (19, true)⟩,
  ⟨some 23, .fa 1 (.t 22), some (19, true)⟩,
  ⟨some 24, .ld 1 false (.t 23), some (19, true)⟩,
  ⟨some 25, .mv (.t 0), some (19, true)⟩,
  ⟨some 26, .mv (.t 1), some (19, true)⟩,
  ⟨some 27, .ia 3 (.t 25) (.t 26), some (19, true)⟩,
  ⟨some 28, .fa 1 (.t 27), some (19, true)⟩,
  ⟨some 29, .ld 1 false (.t 28), some (19, true)⟩,
  ⟨some 30, .bin .eql (.t 24) (.t 29), some (19, true)⟩,
  ⟨some 31, .pick (.t 19) (.t 30) (.c (.b false)), none⟩,
  ⟨some 32, .mv (.t 31), none⟩,
  ⟨some 33, .mv (.t 0), some (32, true)⟩,
  ⟨some 34, .mv (.t 5), some (32, true)⟩,
  ⟨some 35, .ia 3 (.t 33) (.t 34), some (32, true)⟩,
  ⟨some 36, .fa 0 (.t 35), some (32, true)⟩,
  ⟨some 37, .ld 1 false (.t 36), some (32, true)⟩,
  ⟨some 38, .bin .eql (.t 37) (.c (.i .i64 1)), some (32, true)⟩,
  ⟨some 39, .mv (.t 38), some (32, true)⟩,
  ⟨some 40, .mv (.t 0), some (39, false)⟩,
  ⟨some 41, .mv (.t 5), some (39, false)⟩,
  ⟨some 42, .ia 3 (.t 40) (.t 41), some (39, false)⟩,
  ⟨some 43, .fa 0 (.t 42), some (39, false)⟩,
  ⟨some 44, .ld 1 false (.t 43), some (39, false)⟩,
  ⟨some 45, .bin .eql (.t 44) (.c (.i .i64 2)), some (39, false)⟩,
  ⟨some 46, .pick (.t 39) (.c (.b true)) (.t 45), some (32, true)⟩,
  ⟨some 47, .pick (.t 32) (.t 46) (.c (.b false)), none⟩]
def a186_r5 : List AOper := [⟨some 4, .mv (.c (.b true)), none⟩]
def a186_r3 : List AOper := [⟨some 12, .mv (.t 5), none⟩,
  ⟨some 13, .bin .add (.t 12) (.c (.i .i64 1)), none⟩,
  ⟨some 5, .mv (.t 13), none⟩]
def a186_l1 : ACode := .seq (.seq (.reg a186_r2 false []) (.cond (.t 11) (.skip) (.exit 0))) (.seq (.block 1 (.seq (.reg a186_r4 true []) (.cond (.t 47) (.seq (.reg a186_r5 false []) (.ret)) (.skip)))) (.reg a186_r3 false []))
def a186_r6 : List AOper := [⟨some 4, .mv (.c (.b false)), none⟩]
def a186 : AFn := ⟨[false, false], .seq (.reg a186_r0 false []) (.seq (.seq (.reg a186_r1 false []) (.block 0 (.loop [] a186_l1))) (.seq (.reg a186_r6 false []) (.ret))), [.t 4], []⟩
theorem reads186 : readFn Try.prog Try.f186 [false, false] [] [[]] = some a186 := by kernel_rfl
-- spec.l1First
def a187_r0 : List AOper := [⟨some 4, .mv (.c (.i .i64 0)), none⟩]
def a187_r1 : List AOper := [⟨some 5, .mv (.c (.i .i64 0)), none⟩]
def a187_r2 : List AOper := [⟨some 6, .mv (.t 5), none⟩,
  ⟨some 7, .mv (.t 0), none⟩,
  ⟨some 8, .len false (.t 7), none⟩,
  ⟨some 9, .bin .lss (.t 6) (.t 8), none⟩]
def a187_r4 : List AOper := [⟨some 12, .mv (.t 0), none⟩,
  ⟨some 13, .mv (.t 5), none⟩,
  ⟨some 14, .ia 3 (.t 12) (.t 13), none⟩,
  ⟨some 15, .fa 1 (.t 14), none⟩,
  ⟨some 16, .ld 1 false (.t 15), none⟩,
  ⟨some 17, .mv (.t 1), none⟩,
  ⟨some 18, .bin .eql (.t 16) (.t 17), none⟩]
def a187_r5 : List AOper := [⟨some 19, .mv (.t 5), none⟩,
  ⟨some 4, .mv (.t 19), none⟩]
def a187_r3 : List AOper := [⟨some 10, .mv (.t 5), none⟩,
  ⟨some 11, .bin .add (.t 10) (.c (.i .i64 1)), none⟩,
  ⟨some 5, .mv (.t 11), none⟩]
def a187_l1 : ACode := .seq (.seq (.reg a187_r2 false []) (.cond (.t 9) (.skip) (.exit 0))) (.seq (.block 1 (.seq (.reg a187_r4 false []) (.cond (.t 18) (.seq (.reg a187_r5 false []) (.ret)) (.skip)))) (.reg a187_r3 false []))
def a187_r6 : List AOper := [⟨some 4, .mv (.c (.i .i64 (-1))), none⟩]
def a187 : AFn := ⟨[false, false], .seq (.reg a187_r0 false []) (.seq (.seq (.reg a187_r1 false []) (.block 0 (.loop [] a187_l1))) (.seq (.reg a187_r6 false []) (.ret))), [.t 4], []⟩
theorem reads187 : readFn Try.prog Try.f187 [false, false] [] [[]] = some a187 := by kernel_rfl
-- spec.l4At
def a188_r0 : List AOper := [⟨some 2, .box (.t 0), none⟩,
  ⟨some 4, .mv (.c (.i .i64 0)), none⟩]
def a188_r1 : List AOper := [⟨some 5, .mv (.c (.i .i64 0)), none⟩]
def a188_r2 : List AOper := [⟨some 6, .mv (.t 5), none⟩,
  ⟨some 7, .fa 1 (.t 2), none⟩,
  ⟨some 8, .ld 1 false (.t 7), none⟩,
  ⟨some 9, .len false (.t 8), none⟩,
  ⟨some 10, .bin .lss (.t 6) (.t 9), none⟩,
  ⟨some 11, .mv (.t 10), none⟩,
  ⟨some 12, .fa 1 (.t 2), some (11, true)⟩,
  ⟨some 13, .ld 1 false (.t 12), some (11, true)⟩,
  ⟨some 14, .mv (.t 5), some (11, true)⟩,
  ⟨some 15, .ia 1 (.t 13) (.t 14), some (11, true)⟩,
  ⟨some 16, .ld 1 false (.t 15), some (11, true)⟩,
  ⟨some 17, .mv (.t 1), some (11, true)⟩,
  ⟨some 18, .bin .leq (.t 16) (.t 17), some (11, true)⟩,
  ⟨some 19, .pick (.t 11) (.t 18) (.c (.b false)), none⟩]
def a188_r3 : List AOper := [⟨some 20, .mv (.t 5), none⟩,
  ⟨some 21, .bin .add (.t 20) (.c (.i .i64 1)), none⟩,
  ⟨some 5, .mv (.t 21), none⟩]
def a188_l1 : ACode := .seq (.seq (.reg a188_r2 false []) (.cond (.t 19) (.skip) (.exit 0))) (.block 1 (.reg a188_r3 false []))
def a188_r4 : List AOper := [⟨some 22, .mv (.t 5), none⟩,
  ⟨some 4, .mv (.t 22), none⟩]
def a188 : AFn := ⟨[false, false], .seq (.reg a188_r0 false []) (.seq (.reg a188_r1 false []) (.seq (.block 0 (.loop [] a188_l1)) (.seq (.reg a188_r4 false []) (.ret)))), [.t 4], []⟩
theorem reads188 : readFn Try.prog Try.f188 [false, false] [] [[]] = some a188 := by kernel_rfl
-- slices.Reverse[[]impl.Pair,impl.Pair]
def a189_r0 : List AOper := [⟨some 4, .mv (.t 0), none⟩,
  ⟨some 5, .len false (.t 4), none⟩,
  ⟨some 6, .bin .sub (.t 5) (.c (.i .i64 1)), none⟩,
  ⟨some 2, .mv (.c (.i .i64 0)), none⟩,
  ⟨some 3, .mv (.t 6), none⟩]
def a189_r1 : List AOper := [⟨some 7, .mv (.t 2), none⟩,
  ⟨some 8, .mv (.t 3), none⟩,
  ⟨some 9, .bin .lss (.t 7) (.t 8), none⟩]
def a189_r3 : List AOper := [⟨some 14, .mv (.t 0), none⟩,
  ⟨some 15, .mv (.t 2), none⟩,
  ⟨some 16, .mv (.t 0), none⟩,
  ⟨some 17, .mv (.t 3), none⟩,
  ⟨some 18, .mv (.t 0), none⟩,
  ⟨some 19, .mv (.t 3), none⟩,
  ⟨some 20, .ia 2 (.t 18) (.t 19), none⟩,
  ⟨some 21, .ld 2 true (.t 20), none⟩,
  ⟨some 22, .mv (.t 0), none⟩,
  ⟨some 23, .mv (.t 2), none⟩,
  ⟨some 24, .ia 2 (.t 22) (.t 23), none⟩,
  ⟨some 25, .ld 2 true (.t 24), none⟩,
  ⟨some 26, .ia 2 (.t 14) (.t 15), none⟩,
  ⟨none, .st 2 (.t 26) (.t 21), none⟩,
  ⟨some 27, .ia 2 (.t 16) (.t 17), none⟩,
  ⟨none, .st 2 (.t 27) (.t 25), none⟩]
def a189_r2 : List AOper := [⟨some 10, .mv (.t 2), none⟩,
  ⟨some 11, .bin .add (.t 10) (.c (.i .i64 1)), none⟩,
  ⟨some 12, .mv (.t 3), none⟩,
  ⟨some 13, .bin .sub (.t 12) (.c (.i .i64 1)), none⟩,
  ⟨some 2, .mv (.t 11), none⟩,
  ⟨some 3, .mv (.t 13), none⟩]
def a189_l1 : ACode := .seq (.seq (.reg a189_r1 false []) (.cond (.t 9) (.skip) (.exit 0))) (.seq (.block 1 (.reg a189_r3 true [])) (.reg a189_r2 false []))
def a189 : AFn := ⟨[false], .seq (.reg a189_r0 false []) (.block 0 (.loop [] a189_l1)), [], []⟩
theorem reads189 : readFn Try.prog Try.f189 [false] [] [[]] = some a189 := by kernel_rfl
end Go.Proofs.Ytjjocahgbmibeaa
