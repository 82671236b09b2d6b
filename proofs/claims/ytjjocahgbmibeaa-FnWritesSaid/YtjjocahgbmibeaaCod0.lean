/- Code of the program's functions as code of the machine, and that it is theirs. Printed by a program of this session. -/
import Derived.Test.YtjjocahgbmibeaaEngB
import Derived.Test.YtjjocahgbmibeaaProg
import Derived.KernelRfl
namespace Go.Proofs.Ytjjocahgbmibeaa
open Go.Eng
-- laws.FnWrites
def a6_r0 : List AOper := [⟨some 2, .mv (.c (.b false)), none⟩]
def a6_r1 : List AOper := [⟨some 16, .mv (.t 0), none⟩,
  ⟨some 17, .call (.c (.clo 10 [])) [.t 16], none⟩]
def a6_r2 : List AOper := [⟨some 2, .mv (.c (.b true)), none⟩]
def a6_r3 : List AOper := [⟨some 19, .mv (.t 0), none⟩,
  ⟨some 20, .call (.c (.clo 34 [])) [.t 19], none⟩,
  ⟨some 18, .mv (.t 20), none⟩,
  ⟨some 21, .ex (.t 18) 0, none⟩,
  ⟨some 22, .ex (.t 18) 1, none⟩,
  ⟨some 3, .new [.emp, .emp], none⟩,
  ⟨none, .st 2 (.t 3) (.t 21), none⟩,
  ⟨some 4, .mv (.t 22), none⟩]
def a6_r4 : List AOper := [⟨some 23, .ld 2 true (.t 3), none⟩,
  ⟨some 24, .mv (.t 4), none⟩,
  ⟨some 25, .call (.c (.clo 35 [])) [.t 23, .t 24], none⟩,
  ⟨some 5, .new [.emp, .emp], none⟩,
  ⟨none, .st 2 (.t 5) (.t 25), none⟩]
def a6_r5 : List AOper := [⟨some 26, .ld 2 true (.t 3), none⟩,
  ⟨some 27, .mv (.t 4), none⟩,
  ⟨some 28, .call (.c (.clo 36 [])) [.t 26, .t 27], none⟩,
  ⟨some 6, .new [.emp, .emp], none⟩,
  ⟨none, .st 2 (.t 6) (.t 28), none⟩]
def a6_r6 : List AOper := [⟨some 29, .fa 0 (.t 5), none⟩,
  ⟨some 30, .ld 1 false (.t 29), none⟩,
  ⟨some 31, .len false (.t 30), none⟩,
  ⟨some 32, .fa 0 (.t 6), none⟩,
  ⟨some 33, .ld 1 false (.t 32), none⟩,
  ⟨some 34, .len false (.t 33), none⟩,
  ⟨some 35, .bin .neq (.t 31) (.t 34), none⟩,
  ⟨some 36, .mv (.t 35), none⟩,
  ⟨some 37, .fa 1 (.t 5), some (36, false)⟩,
  ⟨some 38, .ld 1 false (.t 37), some (36, false)⟩,
  ⟨some 39, .len false (.t 38), some (36, false)⟩,
  ⟨some 40, .fa 1 (.t 6), some (36, false)⟩,
  ⟨some 41, .ld 1 false (.t 40), some (36, false)⟩,
  ⟨some 42, .len false (.t 41), some (36, false)⟩,
  ⟨some 43, .bin .neq (.t 39) (.t 42), some (36, false)⟩,
  ⟨some 44, .pick (.t 36) (.c (.b true)) (.t 43), none⟩]
def a6_r7 : List AOper := [⟨some 2, .mv (.c (.b false)), none⟩]
def a6_r8 : List AOper := [⟨some 7, .mv (.c (.i .i64 0)), none⟩]
def a6_r9 : List AOper := [⟨some 45, .mv (.t 7), none⟩,
  ⟨some 46, .fa 0 (.t 5), none⟩,
  ⟨some 47, .ld 1 false (.t 46), none⟩,
  ⟨some 48, .len false (.t 47), none⟩,
  ⟨some 49, .bin .lss (.t 45) (.t 48), none⟩]
def a6_r11 : List AOper := [⟨some 52, .fa 0 (.t 3), none⟩,
  ⟨some 53, .ld 1 false (.t 52), none⟩,
  ⟨some 54, .mv (.t 7), none⟩,
  ⟨some 55, .ia 1 (.t 53) (.t 54), none⟩,
  ⟨some 56, .ld 1 false (.t 55), none⟩,
  ⟨some 8, .mv (.t 56), none⟩]
def a6_r12 : List AOper := [⟨some 9, .mv (.c (.i .i64 0)), none⟩]
def a6_r13 : List AOper := [⟨some 57, .mv (.t 9), none⟩,
  ⟨some 58, .mv (.t 4), none⟩,
  ⟨some 59, .len false (.t 58), none⟩,
  ⟨some 60, .bin .lss (.t 57) (.t 59), none⟩]
def a6_r15 : List AOper := [⟨some 63, .mv (.t 4), none⟩,
  ⟨some 64, .mv (.t 9), none⟩,
  ⟨some 65, .ia 4 (.t 63) (.t 64), none⟩,
  ⟨some 66, .fa 0 (.t 65), none⟩,
  ⟨some 67, .ld 1 false (.t 66), none⟩,
  ⟨some 68, .mv (.t 7), none⟩,
  ⟨some 69, .bin .eql (.t 67) (.t 68), none⟩]
def a6_r16 : List AOper := [⟨some 70, .mv (.t 4), none⟩,
  ⟨some 71, .mv (.t 9), none⟩,
  ⟨some 72, .ia 4 (.t 70) (.t 71), none⟩,
  ⟨some 73, .fa 1 (.t 72), none⟩,
  ⟨some 74, .ld 1 false (.t 73), none⟩,
  ⟨some 8, .mv (.t 74), none⟩]
def a6_r14 : List AOper := [⟨some 61, .mv (.t 9), none⟩,
  ⟨some 62, .bin .add (.t 61) (.c (.i .i64 1)), none⟩,
  ⟨some 9, .mv (.t 62), none⟩]
def a6_l1 : ACode := .seq (.seq (.reg a6_r13 false []) (.cond (.t 60) (.skip) (.exit 2))) (.seq (.block 3 (.seq (.reg a6_r15 false []) (.cond (.t 69) (.reg a6_r16 false []) (.skip)))) (.reg a6_r14 false []))
def a6_r17 : List AOper := [⟨some 75, .fa 0 (.t 5), none⟩,
  ⟨some 76, .ld 1 false (.t 75), none⟩,
  ⟨some 77, .mv (.t 7), none⟩,
  ⟨some 78, .ia 1 (.t 76) (.t 77), none⟩,
  ⟨some 79, .ld 1 false (.t 78), none⟩,
  ⟨some 80, .mv (.t 8), none⟩,
  ⟨some 81, .bin .neq (.t 79) (.t 80), none⟩,
  ⟨some 82, .mv (.t 81), none⟩,
  ⟨some 83, .fa 0 (.t 5), some (82, false)⟩,
  ⟨some 84, .ld 1 false (.t 83), some (82, false)⟩,
  ⟨some 85, .mv (.t 7), some (82, false)⟩,
  ⟨some 86, .ia 1 (.t 84) (.t 85), some (82, false)⟩,
  ⟨some 87, .ld 1 false (.t 86), some (82, false)⟩,
  ⟨some 88, .fa 0 (.t 6), some (82, false)⟩,
  ⟨some 89, .ld 1 false (.t 88), some (82, false)⟩,
  ⟨some 90, .mv (.t 7), some (82, false)⟩,
  ⟨some 91, .ia 1 (.t 89) (.t 90), some (82, false)⟩,
  ⟨some 92, .ld 1 false (.t 91), some (82, false)⟩,
  ⟨some 93, .bin .neq (.t 87) (.t 92), some (82, false)⟩,
  ⟨some 94, .pick (.t 82) (.c (.b true)) (.t 93), none⟩]
def a6_r18 : List AOper := [⟨some 2, .mv (.c (.b false)), none⟩]
def a6_r10 : List AOper := [⟨some 50, .mv (.t 7), none⟩,
  ⟨some 51, .bin .add (.t 50) (.c (.i .i64 1)), none⟩,
  ⟨some 7, .mv (.t 51), none⟩]
def a6_l2 : ACode := .seq (.seq (.reg a6_r9 false []) (.cond (.t 49) (.skip) (.exit 0))) (.seq (.block 1 (.seq (.reg a6_r11 false []) (.seq (.seq (.reg a6_r12 false []) (.block 2 (.loop [] a6_l1))) (.seq (.reg a6_r17 true []) (.cond (.t 94) (.seq (.reg a6_r18 false []) (.ret)) (.skip)))))) (.reg a6_r10 false []))
def a6_r19 : List AOper := [⟨some 96, .mv (.t 0), none⟩,
  ⟨some 97, .call (.c (.clo 37 [])) [.t 96], none⟩,
  ⟨some 95, .mv (.t 97), none⟩,
  ⟨some 98, .ex (.t 95) 0, none⟩,
  ⟨some 99, .ex (.t 95) 1, none⟩,
  ⟨some 100, .ex (.t 95) 2, none⟩,
  ⟨some 10, .new [.emp, .emp], none⟩,
  ⟨none, .st 2 (.t 10) (.t 98), none⟩,
  ⟨some 11, .mv (.t 99), none⟩,
  ⟨some 12, .mv (.t 100), none⟩]
def a6_r20 : List AOper := [⟨some 101, .ld 2 true (.t 10), none⟩,
  ⟨some 102, .mv (.t 11), none⟩,
  ⟨some 103, .mv (.t 12), none⟩,
  ⟨some 104, .call (.c (.clo 38 [])) [.t 101, .t 102, .t 103], none⟩,
  ⟨some 105, .ld 2 true (.t 10), none⟩,
  ⟨some 106, .mv (.t 11), none⟩,
  ⟨some 107, .mv (.t 12), none⟩,
  ⟨some 108, .call (.c (.clo 39 [])) [.t 105, .t 106, .t 107], none⟩,
  ⟨some 13, .new [.emp, .emp], none⟩,
  ⟨some 14, .new [.emp, .emp], none⟩,
  ⟨none, .st 2 (.t 13) (.t 104), none⟩,
  ⟨none, .st 2 (.t 14) (.t 108), none⟩]
def a6_r21 : List AOper := [⟨some 15, .mv (.c (.i .i64 0)), none⟩]
def a6_r22 : List AOper := [⟨some 109, .mv (.t 15), none⟩,
  ⟨some 110, .fa 0 (.t 13), none⟩,
  ⟨some 111, .ld 1 false (.t 110), none⟩,
  ⟨some 112, .len false (.t 111), none⟩,
  ⟨some 113, .bin .lss (.t 109) (.t 112), none⟩]
def a6_r24 : List AOper := [⟨some 116, .fa 0 (.t 13), none⟩,
  ⟨some 117, .ld 1 false (.t 116), none⟩,
  ⟨some 118, .mv (.t 15), none⟩,
  ⟨some 119, .ia 1 (.t 117) (.t 118), none⟩,
  ⟨some 120, .ld 1 false (.t 119), none⟩,
  ⟨some 121, .fa 0 (.t 14), none⟩,
  ⟨some 122, .ld 1 false (.t 121), none⟩,
  ⟨some 123, .mv (.t 15), none⟩,
  ⟨some 124, .ia 1 (.t 122) (.t 123), none⟩,
  ⟨some 125, .ld 1 false (.t 124), none⟩,
  ⟨some 126, .bin .neq (.t 120) (.t 125), none⟩]
def a6_r25 : List AOper := [⟨some 2, .mv (.c (.b false)), none⟩]
def a6_r23 : List AOper := [⟨some 114, .mv (.t 15), none⟩,
  ⟨some 115, .bin .add (.t 114) (.c (.i .i64 1)), none⟩,
  ⟨some 15, .mv (.t 115), none⟩]
def a6_l3 : ACode := .seq (.seq (.reg a6_r22 false []) (.cond (.t 113) (.skip) (.exit 4))) (.seq (.block 5 (.seq (.reg a6_r24 true []) (.cond (.t 126) (.seq (.reg a6_r25 false []) (.ret)) (.skip)))) (.reg a6_r23 false []))
def a6_r26 : List AOper := [⟨some 127, .fa 0 (.t 13), none⟩,
  ⟨some 128, .ld 1 false (.t 127), none⟩,
  ⟨some 129, .len false (.t 128), none⟩,
  ⟨some 130, .fa 0 (.t 14), none⟩,
  ⟨some 131, .ld 1 false (.t 130), none⟩,
  ⟨some 132, .len false (.t 131), none⟩,
  ⟨some 133, .bin .eql (.t 129) (.t 132), none⟩,
  ⟨some 2, .mv (.t 133), none⟩]
def a6 : AFn := ⟨[false], .seq (.reg a6_r0 false []) (.seq (.seq (.reg a6_r1 false []) (.cond (.t 17) (.seq (.reg a6_r2 false []) (.ret)) (.skip))) (.seq (.reg a6_r3 false []) (.seq (.reg a6_r4 false []) (.seq (.reg a6_r5 false []) (.seq (.seq (.reg a6_r6 false []) (.cond (.t 44) (.seq (.reg a6_r7 false []) (.ret)) (.skip))) (.seq (.seq (.reg a6_r8 false []) (.block 0 (.loop [] a6_l2))) (.seq (.reg a6_r19 false []) (.seq (.reg a6_r20 true [(3, 4), (0, 8), (3, 8), (4, 8), (7, 8), (0, 9), (3, 9), (4, 9), (7, 9), (8, 9)]) (.seq (.seq (.reg a6_r21 false []) (.block 4 (.loop [] a6_l3))) (.seq (.reg a6_r26 false []) (.ret))))))))))), [.t 2], []⟩
theorem reads6 : readFn Try.prog Try.f6 [false] [] [[], [], []] = some a6 := by kernel_rfl
-- laws.big
def a10_r0 : List AOper := [⟨some 2, .mv (.c (.b false)), none⟩]
def a10_r1 : List AOper := [⟨some 3, .mv (.t 0), none⟩,
  ⟨some 4, .len false (.t 3), none⟩,
  ⟨some 5, .bin .gtr (.t 4) (.c (.i .i64 1048576)), none⟩,
  ⟨some 2, .mv (.t 5), none⟩]
def a10 : AFn := ⟨[false], .seq (.reg a10_r0 false []) (.seq (.reg a10_r1 false []) (.ret)), [.t 2], []⟩
theorem reads10 : readFn Try.prog Try.f10 [false] [] [] = some a10 := by kernel_rfl
-- spec.TreeDepth
def a17_r0 : List AOper := [⟨some 1, .box (.t 0), none⟩,
  ⟨some 2, .mv (.c (.i .i64 0)), none⟩]
def a17_r1 : List AOper := [⟨some 3, .ld 5 true (.t 1), none⟩,
  ⟨some 4, .call (.c (.clo 68 [])) [.t 3, .c (.i .i64 0), .c (.i .i64 1000), .c (.i .i64 7)], none⟩,
  ⟨some 2, .mv (.t 4), none⟩]
def a17 : AFn := ⟨[false], .seq (.reg a17_r0 false []) (.seq (.reg a17_r1 false []) (.ret)), [.t 2], []⟩
theorem reads17 : readFn Try.prog Try.f17 [false] [] [] = some a17 := by kernel_rfl
-- spec.TreeOk
def a18_r0 : List AOper := [⟨some 1, .box (.t 0), none⟩,
  ⟨some 2, .mv (.c (.b false)), none⟩]
def a18_r1 : List AOper := [⟨some 3, .ld 5 true (.t 1), none⟩,
  ⟨some 4, .call (.c (.clo 17 [])) [.t 3], none⟩,
  ⟨some 5, .bin .gtr (.t 4) (.c (.i .i64 0)), none⟩,
  ⟨some 2, .mv (.t 5), none⟩]
def a18 : AFn := ⟨[false], .seq (.reg a18_r0 false []) (.seq (.reg a18_r1 false []) (.ret)), [.t 2], []⟩
theorem reads18 : readFn Try.prog Try.f18 [false] [] [] = some a18 := by kernel_rfl
-- spec.DrawDo
def a34_r0 : List AOper := [⟨some 2, .new [.emp, .emp], none⟩,
  ⟨some 3, .mv (.c (.emp)), none⟩]
def a34_r1 : List AOper := [⟨some 7, .mv (.t 0), none⟩,
  ⟨some 8, .call (.c (.clo 81 [])) [.t 7], none⟩,
  ⟨some 6, .mv (.t 8), none⟩,
  ⟨some 9, .ex (.t 6) 0, none⟩,
  ⟨some 10, .ex (.t 6) 1, none⟩,
  ⟨some 4, .new [.emp, .emp], none⟩,
  ⟨none, .st 2 (.t 4) (.t 9), none⟩,
  ⟨some 5, .mv (.t 10), none⟩]
def a34_r2 : List AOper := [⟨some 11, .ld 2 true (.t 4), none⟩,
  ⟨some 12, .mv (.t 5), none⟩,
  ⟨none, .st 2 (.t 2) (.t 11), none⟩,
  ⟨some 3, .mv (.t 12), none⟩]
def a34 : AFn := ⟨[false], .seq (.reg a34_r0 false []) (.seq (.reg a34_r1 false []) (.seq (.reg a34_r2 false []) (.ret))), [.cell 2 2 true, .t 3], []⟩
theorem reads34 : readFn Try.prog Try.f34 [false] [] [] = some a34 := by kernel_rfl
-- impl.Do
def a35_r0 : List AOper := [⟨some 2, .box (.t 0), none⟩,
  ⟨some 4, .new [.emp, .emp], none⟩]
def a35_r1 : List AOper := [⟨some 8, .ld 2 true (.t 2), none⟩,
  ⟨some 9, .call (.c (.clo 82 [])) [.t 8], none⟩,
  ⟨some 5, .new [.emp, .emp], none⟩,
  ⟨none, .st 2 (.t 5) (.t 9), none⟩]
def a35_r2 : List AOper := [⟨some 10, .mv (.t 1), none⟩,
  ⟨some 11, .len false (.t 10), none⟩,
  ⟨some 12, .mv (.c (.i .i64 0)), none⟩]
def a35_r3 : List AOper := [⟨some 13, .bin .lss (.t 12) (.t 11), none⟩]
def a35_r4 : List AOper := [⟨some 14, .ia 4 (.t 10) (.t 12), none⟩,
  ⟨some 15, .ld 4 true (.t 14), none⟩,
  ⟨some 7, .new [.i .i64 0, .s ByteArray.empty, .i .i64 0, .i .i64 0], none⟩,
  ⟨none, .st 4 (.t 7) (.t 15), none⟩]
def a35_r5 : List AOper := [⟨some 16, .ld 4 true (.t 7), none⟩,
  ⟨some 17, .call (.c (.clo 83 [])) [.t 5, .t 16], none⟩]
def a35_r6 : List AOper := [⟨some 18, .bin .add (.t 12) (.c (.i .i64 1)), none⟩,
  ⟨some 12, .mv (.t 18), none⟩]
def a35_l1 : ACode := .seq (.reg a35_r3 false []) (.seq (.cond (.t 13) (.skip) (.exit 0)) (.seq (.block 1 (.seq (.reg a35_r4 false []) (.reg a35_r5 false []))) (.reg a35_r6 false [])))
def a35_r7 : List AOper := [⟨some 19, .ld 2 true (.t 5), none⟩,
  ⟨none, .st 2 (.t 4) (.t 19), none⟩]
def a35 : AFn := ⟨[false, false], .seq (.reg a35_r0 false []) (.seq (.reg a35_r1 false []) (.seq (.seq (.reg a35_r2 false []) (.block 0 (.loop [] a35_l1))) (.seq (.reg a35_r7 false []) (.ret)))), [.cell 4 2 true], []⟩
theorem reads35 : readFn Try.prog Try.f35 [false, false] [] [[]] = some a35 := by kernel_rfl
-- spec.Do
def a36_r0 : List AOper := [⟨some 2, .box (.t 0), none⟩,
  ⟨some 4, .new [.emp, .emp], none⟩]
def a36_r1 : List AOper := [⟨some 8, .ld 2 true (.t 2), none⟩,
  ⟨some 9, .call (.c (.clo 84 [])) [.t 8], none⟩,
  ⟨some 5, .new [.emp, .emp], none⟩,
  ⟨none, .st 2 (.t 5) (.t 9), none⟩]
def a36_r2 : List AOper := [⟨some 6, .mv (.c (.i .i64 0)), none⟩]
def a36_r3 : List AOper := [⟨some 10, .mv (.t 6), none⟩,
  ⟨some 11, .mv (.t 1), none⟩,
  ⟨some 12, .len false (.t 11), none⟩,
  ⟨some 13, .bin .lss (.t 10) (.t 12), none⟩]
def a36_r5 : List AOper := [⟨some 16, .mv (.t 1), none⟩,
  ⟨some 17, .mv (.t 6), none⟩,
  ⟨some 18, .ia 4 (.t 16) (.t 17), none⟩,
  ⟨some 19, .ld 4 true (.t 18), none⟩,
  ⟨some 7, .new [.i .i64 0, .s ByteArray.empty, .i .i64 0, .i .i64 0], none⟩,
  ⟨none, .st 4 (.t 7) (.t 19), none⟩]
def a36_r6 : List AOper := [⟨some 20, .fa 0 (.t 7), none⟩,
  ⟨some 21, .ld 1 false (.t 20), none⟩,
  ⟨some 22, .fa 0 (.t 5), none⟩,
  ⟨some 23, .ld 1 false (.t 22), none⟩,
  ⟨some 24, .len false (.t 23), none⟩,
  ⟨some 25, .bin .sub (.t 24) (.c (.i .i64 1)), none⟩,
  ⟨some 26, .call (.c (.clo 85 [])) [.t 21, .c (.i .i64 0), .t 25], none⟩]
def a36_r7 : List AOper := [⟨some 27, .fa 0 (.t 5), none⟩,
  ⟨some 28, .ld 1 false (.t 27), none⟩,
  ⟨some 29, .fa 0 (.t 7), none⟩,
  ⟨some 30, .ld 1 false (.t 29), none⟩,
  ⟨some 31, .fa 1 (.t 7), none⟩,
  ⟨some 32, .ld 1 false (.t 31), none⟩,
  ⟨some 33, .ia 1 (.t 28) (.t 30), none⟩,
  ⟨none, .st 1 (.t 33) (.t 32), none⟩]
def a36_r8 : List AOper := [⟨some 34, .fa 0 (.t 7), none⟩,
  ⟨some 35, .ld 1 false (.t 34), none⟩,
  ⟨some 36, .bin .eql (.t 35) (.c (.i .i64 (-1))), none⟩,
  ⟨some 37, .mv (.t 36), none⟩,
  ⟨some 38, .fa 0 (.t 7), some (37, false)⟩,
  ⟨some 39, .ld 1 false (.t 38), some (37, false)⟩,
  ⟨some 40, .bin .eql (.t 39) (.c (.i .i64 (-2))), some (37, false)⟩,
  ⟨some 41, .pick (.t 37) (.c (.b true)) (.t 40), none⟩,
  ⟨some 42, .mv (.t 41), none⟩,
  ⟨some 43, .fa 0 (.t 7), some (42, true)⟩,
  ⟨some 44, .ld 1 false (.t 43), some (42, true)⟩,
  ⟨some 45, .bin .sub (.c (.i .i64 (-1))) (.t 44), some (42, true)⟩,
  ⟨some 46, .fa 1 (.t 5), some (42, true)⟩,
  ⟨some 47, .ld 1 false (.t 46), some (42, true)⟩,
  ⟨some 48, .len false (.t 47), some (42, true)⟩,
  ⟨some 49, .bin .lss (.t 45) (.t 48), some (42, true)⟩,
  ⟨some 50, .pick (.t 42) (.t 49) (.c (.b false)), none⟩]
def a36_r9 : List AOper := [⟨some 51, .fa 1 (.t 5), none⟩,
  ⟨some 52, .ld 1 false (.t 51), none⟩,
  ⟨some 53, .fa 0 (.t 7), none⟩,
  ⟨some 54, .ld 1 false (.t 53), none⟩,
  ⟨some 55, .bin .sub (.c (.i .i64 (-1))) (.t 54), none⟩,
  ⟨some 56, .fa 2 (.t 7), none⟩,
  ⟨some 57, .ld 2 true (.t 56), none⟩,
  ⟨some 58, .ia 2 (.t 52) (.t 55), none⟩,
  ⟨none, .st 2 (.t 58) (.t 57), none⟩]
def a36_r4 : List AOper := [⟨some 14, .mv (.t 6), none⟩,
  ⟨some 15, .bin .add (.t 14) (.c (.i .i64 1)), none⟩,
  ⟨some 6, .mv (.t 15), none⟩]
def a36_l1 : ACode := .seq (.seq (.reg a36_r3 false []) (.cond (.t 13) (.skip) (.exit 0))) (.seq (.block 1 (.seq (.reg a36_r5 false []) (.seq (.seq (.reg a36_r6 false []) (.cond (.t 26) (.reg a36_r7 false []) (.skip))) (.seq (.reg a36_r8 false []) (.cond (.t 50) (.reg a36_r9 false []) (.skip)))))) (.reg a36_r4 false []))
def a36_r10 : List AOper := [⟨some 59, .ld 2 true (.t 5), none⟩,
  ⟨none, .st 2 (.t 4) (.t 59), none⟩]
def a36 : AFn := ⟨[false, false], .seq (.reg a36_r0 false []) (.seq (.reg a36_r1 false []) (.seq (.seq (.reg a36_r2 false []) (.block 0 (.loop [] a36_l1))) (.seq (.reg a36_r10 false []) (.ret)))), [.cell 4 2 true], []⟩
theorem reads36 : readFn Try.prog Try.f36 [false, false] [] [[]] = some a36 := by kernel_rfl
-- spec.DrawSome
def a37_r0 : List AOper := [⟨some 2, .new [.emp, .emp], none⟩,
  ⟨some 3, .mv (.c (.emp)), none⟩,
  ⟨some 4, .mv (.c (.emp)), none⟩]
def a37_r1 : List AOper := [⟨some 11, .mv (.t 0), none⟩,
  ⟨some 12, .call (.c (.clo 81 [])) [.t 11], none⟩,
  ⟨some 10, .mv (.t 12), none⟩,
  ⟨some 13, .ex (.t 10) 0, none⟩,
  ⟨some 14, .ex (.t 10) 1, none⟩,
  ⟨some 5, .new [.emp, .emp], none⟩,
  ⟨none, .st 2 (.t 5) (.t 13), none⟩,
  ⟨some 6, .mv (.t 14), none⟩]
def a37_r2 : List AOper := [⟨some 15, .mv (.t 0), none⟩,
  ⟨some 16, .call (.c (.clo 59 [])) [.t 15], none⟩,
  ⟨some 7, .mv (.t 16), none⟩]
def a37_r3 : List AOper := [⟨some 17, .rowOf 1 [.b false] 0 [], none⟩,
  ⟨some 8, .mv (.t 17), none⟩]
def a37_r4 : List AOper := [⟨some 9, .mv (.c (.i .i64 0)), none⟩]
def a37_r5 : List AOper := [⟨some 18, .mv (.t 9), none⟩,
  ⟨some 19, .mv (.t 6), none⟩,
  ⟨some 20, .len false (.t 19), none⟩,
  ⟨some 21, .mv (.t 7), none⟩,
  ⟨some 22, .call (.c (.clo 77 [])) [.t 21, .c (.i .i64 3)], none⟩,
  ⟨some 23, .bin .add (.t 20) (.t 22), none⟩,
  ⟨some 24, .bin .sub (.t 23) (.c (.i .i64 1)), none⟩,
  ⟨some 25, .bin .lss (.t 18) (.t 24), none⟩]
def a37_r7 : List AOper := [⟨some 28, .mv (.t 8), none⟩,
  ⟨some 29, .mv (.t 7), none⟩,
  ⟨some 30, .call (.c (.clo 86 [])) [.t 29, .c (.i .i64 2)], none⟩,
  ⟨some 31, .rowOf 1 [.b false] 1 [(0, .t 30)], none⟩,
  ⟨some 32, .ap 1 1 (.t 28) (.t 31), none⟩,
  ⟨some 8, .mv (.t 32), none⟩]
def a37_r6 : List AOper := [⟨some 26, .mv (.t 9), none⟩,
  ⟨some 27, .bin .add (.t 26) (.c (.i .i64 1)), none⟩,
  ⟨some 9, .mv (.t 27), none⟩]
def a37_l1 : ACode := .seq (.seq (.reg a37_r5 false []) (.cond (.t 25) (.skip) (.exit 0))) (.seq (.block 1 (.reg a37_r7 false [])) (.reg a37_r6 false []))
def a37_r8 : List AOper := [⟨some 33, .ld 2 true (.t 5), none⟩,
  ⟨some 34, .mv (.t 6), none⟩,
  ⟨some 35, .mv (.t 8), none⟩,
  ⟨none, .st 2 (.t 2) (.t 33), none⟩,
  ⟨some 3, .mv (.t 34), none⟩,
  ⟨some 4, .mv (.t 35), none⟩]
def a37 : AFn := ⟨[false], .seq (.reg a37_r0 false []) (.seq (.reg a37_r1 false []) (.seq (.reg a37_r2 false []) (.seq (.reg a37_r3 false []) (.seq (.seq (.reg a37_r4 false []) (.block 0 (.loop [] a37_l1))) (.seq (.reg a37_r8 false []) (.ret)))))), [.cell 2 2 true, .t 3, .t 4], []⟩
theorem reads37 : readFn Try.prog Try.f37 [false] [] [[]] = some a37 := by kernel_rfl
-- impl.Some
def a38_r0 : List AOper := [⟨some 3, .box (.t 0), none⟩,
  ⟨some 6, .new [.emp, .emp], none⟩]
def a38_r1 : List AOper := [⟨some 10, .ld 2 true (.t 3), none⟩,
  ⟨some 11, .call (.c (.clo 82 [])) [.t 10], none⟩,
  ⟨some 7, .new [.emp, .emp], none⟩,
  ⟨none, .st 2 (.t 7) (.t 11), none⟩]
def a38_r2 : List AOper := [⟨some 12, .mv (.t 1), none⟩,
  ⟨some 13, .len false (.t 12), none⟩,
  ⟨some 14, .mv (.c (.i .i64 0)), none⟩]
def a38_r3 : List AOper := [⟨some 15, .bin .lss (.t 14) (.t 13), none⟩]
def a38_r4 : List AOper := [⟨some 16, .mv (.t 14), none⟩,
  ⟨some 17, .ia 4 (.t 12) (.t 14), none⟩,
  ⟨some 18, .ld 4 true (.t 17), none⟩,
  ⟨some 9, .new [.i .i64 0, .s ByteArray.empty, .i .i64 0, .i .i64 0], none⟩,
  ⟨some 8, .mv (.t 16), none⟩,
  ⟨none, .st 4 (.t 9) (.t 18), none⟩]
def a38_r5 : List AOper := [⟨some 19, .mv (.t 8), none⟩,
  ⟨some 20, .mv (.t 2), none⟩,
  ⟨some 21, .len false (.t 20), none⟩,
  ⟨some 22, .bin .lss (.t 19) (.t 21), none⟩,
  ⟨some 23, .mv (.t 22), none⟩,
  ⟨some 24, .mv (.t 2), some (23, true)⟩,
  ⟨some 25, .mv (.t 8), some (23, true)⟩,
  ⟨some 26, .ia 1 (.t 24) (.t 25), some (23, true)⟩,
  ⟨some 27, .ld 1 false (.t 26), some (23, true)⟩,
  ⟨some 28, .pick (.t 23) (.t 27) (.c (.b false)), none⟩]
def a38_r6 : List AOper := [⟨some 29, .ld 4 true (.t 9), none⟩,
  ⟨some 30, .call (.c (.clo 83 [])) [.t 7, .t 29], none⟩]
def a38_r7 : List AOper := [⟨some 31, .bin .add (.t 14) (.c (.i .i64 1)), none⟩,
  ⟨some 14, .mv (.t 31), none⟩]
def a38_l1 : ACode := .seq (.reg a38_r3 false []) (.seq (.cond (.t 15) (.skip) (.exit 0)) (.seq (.block 1 (.seq (.reg a38_r4 false []) (.seq (.reg a38_r5 false []) (.cond (.t 28) (.reg a38_r6 false []) (.skip))))) (.reg a38_r7 false [])))
def a38_r8 : List AOper := [⟨some 32, .ld 2 true (.t 7), none⟩,
  ⟨none, .st 2 (.t 6) (.t 32), none⟩]
def a38 : AFn := ⟨[false, false, false], .seq (.reg a38_r0 false []) (.seq (.reg a38_r1 false []) (.seq (.seq (.reg a38_r2 false []) (.block 0 (.loop [] a38_l1))) (.seq (.reg a38_r8 false []) (.ret)))), [.cell 6 2 true], []⟩
theorem reads38 : readFn Try.prog Try.f38 [false, false, false] [] [[]] = some a38 := by kernel_rfl
-- spec.Some
def a39_r0 : List AOper := [⟨some 3, .box (.t 0), none⟩,
  ⟨some 6, .new [.emp, .emp], none⟩]
def a39_r1 : List AOper := [⟨some 9, .mv (.c .emp), none⟩,
  ⟨some 7, .mv (.t 9), none⟩]
def a39_r2 : List AOper := [⟨some 8, .mv (.c (.i .i64 0)), none⟩]
def a39_r3 : List AOper := [⟨some 10, .mv (.t 8), none⟩,
  ⟨some 11, .mv (.t 1), none⟩,
  ⟨some 12, .len false (.t 11), none⟩,
  ⟨some 13, .bin .lss (.t 10) (.t 12), none⟩,
  ⟨some 14, .mv (.t 13), none⟩,
  ⟨some 15, .mv (.t 8), some (14, true)⟩,
  ⟨some 16, .mv (.t 2), some (14, true)⟩,
  ⟨some 17, .len false (.t 16), some (14, true)⟩,
  ⟨some 18, .bin .lss (.t 15) (.t 17), some (14, true)⟩,
  ⟨some 19, .pick (.t 14) (.t 18) (.c (.b false)), none⟩]
def a39_r5 : List AOper := [⟨some 22, .mv (.t 2), none⟩,
  ⟨some 23, .mv (.t 8), none⟩,
  ⟨some 24, .ia 1 (.t 22) (.t 23), none⟩,
  ⟨some 25, .ld 1 false (.t 24), none⟩]
def a39_r6 : List AOper := [⟨some 26, .mv (.t 7), none⟩,
  ⟨some 27, .mv (.t 1), none⟩,
  ⟨some 28, .mv (.t 8), none⟩,
  ⟨some 29, .ia 4 (.t 27) (.t 28), none⟩,
  ⟨some 30, .ld 4 true (.t 29), none⟩,
  ⟨some 31, .rowOf 4 [.i .i64 0, .s ByteArray.empty, .i .i64 0, .i .i64 0] 1 [(0, .t 30)], none⟩,
  ⟨some 32, .ap 4 40 (.t 26) (.t 31), none⟩,
  ⟨some 7, .mv (.t 32), none⟩]
def a39_r4 : List AOper := [⟨some 20, .mv (.t 8), none⟩,
  ⟨some 21, .bin .add (.t 20) (.c (.i .i64 1)), none⟩,
  ⟨some 8, .mv (.t 21), none⟩]
def a39_l1 : ACode := .seq (.seq (.reg a39_r3 false []) (.cond (.t 19) (.skip) (.exit 0))) (.seq (.block 1 (.seq (.reg a39_r5 false []) (.cond (.t 25) (.reg a39_r6 false []) (.skip)))) (.reg a39_r4 false []))
def a39_r7 : List AOper := [⟨some 33, .ld 2 true (.t 3), none⟩,
  ⟨some 34, .mv (.t 7), none⟩,
  ⟨some 35, .call (.c (.clo 36 [])) [.t 33, .t 34], none⟩,
  ⟨none, .st 2 (.t 6) (.t 35), none⟩]
def a39 : AFn := ⟨[false, false, false], .seq (.reg a39_r0 false []) (.seq (.reg a39_r1 false []) (.seq (.seq (.reg a39_r2 false []) (.block 0 (.loop [] a39_l1))) (.seq (.reg a39_r7 false []) (.ret)))), [.cell 6 2 true], []⟩
theorem reads39 : readFn Try.prog Try.f39 [false, false, false] [] [[]] = some a39 := by kernel_rfl
-- spec.GetNode
def a40_r0 : List AOper := [⟨some 2, .new [.b false, .emp, .emp, .emp, .emp], none⟩,
  ⟨some 3, .mv (.c (.emp)), none⟩,
  ⟨some 4, .mv (.c (.b false)), none⟩]
def a40_r1 : List AOper := [⟨some 18, .mv (.t 0), none⟩,
  ⟨some 19, .build [.emp, .i .i64 0, .b false] [(0, 1, .t 18), (2, 1, .c (.b true))], none⟩,
  ⟨some 20, .box (.t 19), none⟩,
  ⟨some 5, .mv (.t 20), none⟩]
def a40_r2 : List AOper := [⟨some 21, .mv (.t 5), none⟩,
  ⟨some 22, .call (.c (.clo 87 [])) [.t 21], none⟩,
  ⟨some 23, .bin .eql (.t 22) (.c (.i .i64 1)), none⟩,
  ⟨some 24, .build [.b false, .emp, .emp, .emp, .emp] [(0, 1, .t 23)], none⟩,
  ⟨some 6, .new [.b false, .emp, .emp, .emp, .emp], none⟩,
  ⟨none, .st 5 (.t 6) (.t 24), none⟩]
def a40_r3 : List AOper := [⟨some 25, .rowOf 1 [.i .i64 0] 0 [], none⟩,
  ⟨some 7, .mv (.t 25), none⟩]
def a40_r4 : List AOper := [⟨some 26, .mv (.t 5), none⟩,
  ⟨some 27, .call (.c (.clo 87 [])) [.t 26], none⟩,
  ⟨some 8, .mv (.t 27), none⟩]
def a40_r5 : List AOper := [⟨some 28, .mv (.t 5), none⟩,
  ⟨some 29, .mv (.t 5), none⟩,
  ⟨some 30, .nc (.t 29), none⟩,
  ⟨some 31, .fa 2 (.t 30), none⟩,
  ⟨some 32, .ld 1 false (.t 31), none⟩,
  ⟨some 33, .mv (.t 32), none⟩,
  ⟨some 34, .mv (.t 8), some (33, true)⟩,
  ⟨some 35, .call (.c (.clo 85 [])) [.t 34, .c (.i .i64 0), .c (.i .i64 4)], some (33, true)⟩,
  ⟨some 36, .pick (.t 33) (.t 35) (.c (.b false)), none⟩,
  ⟨some 37, .nc (.t 28), none⟩,
  ⟨some 38, .fa 2 (.t 37), none⟩,
  ⟨none, .st 1 (.t 38) (.t 36), none⟩]
def a40_r6 : List AOper := [⟨some 9, .mv (.c (.i .i64 0)), none⟩]
def a40_r7 : List AOper := [⟨some 39, .mv (.t 9), none⟩,
  ⟨some 40, .mv (.t 8), none⟩,
  ⟨some 41, .bin .lss (.t 39) (.t 40), none⟩,
  ⟨some 42, .mv (.t 41), none⟩,
  ⟨some 43, .mv (.t 5), some (42, true)⟩,
  ⟨some 44, .nc (.t 43), some (42, true)⟩,
  ⟨some 45, .fa 2 (.t 44), some (42, true)⟩,
  ⟨some 46, .ld 1 false (.t 45), some (42, true)⟩,
  ⟨some 47, .pick (.t 42) (.t 46) (.c (.b false)), none⟩,
  ⟨some 48, .mv (.t 47), none⟩,
  ⟨some 49, .fa 0 (.t 6), some (48, true)⟩,
  ⟨some 50, .ld 1 false (.t 49), some (48, true)⟩,
  ⟨some 51, .pick (.t 48) (.t 50) (.c (.b false)), none⟩]
def a40_r9 : List AOper := [⟨some 54, .mv (.t 5), none⟩,
  ⟨some 55, .call (.c (.clo 87 [])) [.t 54], none⟩,
  ⟨some 56, .build [.i .i64 0, .i .i64 0] [(0, 1, .t 55)], none⟩,
  ⟨some 10, .new [.i .i64 0, .i .i64 0], none⟩,
  ⟨none, .st 2 (.t 10) (.t 56), none⟩]
def a40_r10 : List AOper := [⟨some 57, .mv (.t 5), none⟩,
  ⟨some 58, .call (.c (.clo 87 [])) [.t 57], none⟩,
  ⟨some 59, .fa 1 (.t 10), none⟩,
  ⟨none, .st 1 (.t 59) (.t 58), none⟩]
def a40_r11 : List AOper := [⟨some 60, .fa 1 (.t 6), none⟩,
  ⟨some 61, .ld 1 false (.t 60), none⟩,
  ⟨some 62, .ld 2 true (.t 10), none⟩,
  ⟨some 63, .rowOf 2 [.i .i64 0, .i .i64 0] 1 [(0, .t 62)], none⟩,
  ⟨some 64, .ap 2 16 (.t 61) (.t 63), none⟩,
  ⟨some 65, .fa 1 (.t 6), none⟩,
  ⟨none, .st 1 (.t 65) (.t 64), none⟩]
def a40_r8 : List AOper := [⟨some 52, .mv (.t 9), none⟩,
  ⟨some 53, .bin .add (.t 52) (.c (.i .i64 1)), none⟩,
  ⟨some 9, .mv (.t 53), none⟩]
def a40_l1 : ACode := .seq (.seq (.reg a40_r7 false []) (.cond (.t 51) (.skip) (.exit 0))) (.seq (.block 1 (.seq (.reg a40_r9 false []) (.seq (.reg a40_r10 false []) (.reg a40_r11 false [])))) (.reg a40_r8 false []))
def a40_r12 : List AOper := [⟨some 66, .fa 0 (.t 6), none⟩,
  ⟨some 67, .ld 1 false (.t 66), none⟩,
  ⟨some 68, .un .not (.t 67), none⟩,
  ⟨some 69, .mv (.t 68), none⟩,
  ⟨some 70, .mv (.t 5), some (69, true)⟩,
  ⟨some 71, .nc (.t 70), some (69, true)⟩,
  ⟨some 72, .fa 2 (.t 71), some (69, true)⟩,
  ⟨some 73, .ld 1 false (.t 72), some (69, true)⟩,
  ⟨some 74, .pick (.t 69) (.t 73) (.c (.b false)), none⟩]
def a40_r13 : List AOper := [⟨some 11, .mv (.c (.i .i64 0)), none⟩]
def a40_r14 : List AOper := [⟨some 75, .mv (.t 11), none⟩,
  ⟨some 76, .mv (.t 8), none⟩,
  ⟨some 77, .bin .lss (.t 75) (.t 76), none⟩]
def a40_r16 : List AOper := [⟨some 80, .mv (.t 7), none⟩,
  ⟨some 81, .mv (.t 5), none⟩,
  ⟨some 82, .call (.c (.clo 87 [])) [.t 81], none⟩,
  ⟨some 83, .rowOf 1 [.i .i64 0] 1 [(0, .t 82)], none⟩,
  ⟨some 84, .ap 1 8 (.t 80) (.t 83), none⟩,
  ⟨some 7, .mv (.t 84), none⟩]
def a40_r17 : List AOper := [⟨some 85, .fa 3 (.t 6), none⟩,
  ⟨some 86, .ld 1 false (.t 85), none⟩,
  ⟨some 87, .build [.b false, .emp, .emp, .emp, .emp] [], none⟩,
  ⟨some 88, .rowOf 5 [.b false, .emp, .emp, .emp, .emp] 1 [(0, .t 87)], none⟩,
  ⟨some 89, .ap 5 104 (.t 86) (.t 88), none⟩,
  ⟨some 90, .fa 3 (.t 6), none⟩,
  ⟨none, .st 1 (.t 90) (.t 89), none⟩]
def a40_r15 : List AOper := [⟨some 78, .mv (.t 11), none⟩,
  ⟨some 79, .bin .add (.t 78) (.c (.i .i64 1)), none⟩,
  ⟨some 11, .mv (.t 79), none⟩]
def a40_l2 : ACode := .seq (.seq (.reg a40_r14 false []) (.cond (.t 77) (.skip) (.exit 2))) (.seq (.block 3 (.seq (.reg a40_r16 false []) (.reg a40_r17 false []))) (.reg a40_r15 false []))
def a40_r18 : List AOper := [⟨some 12, .mv (.c (.i .i64 1)), none⟩]
def a40_r19 : List AOper := [⟨some 91, .mv (.t 12), none⟩,
  ⟨some 92, .mv (.t 8), none⟩,
  ⟨some 93, .bin .lss (.t 91) (.t 92), none⟩]
def a40_r21 : List AOper := [⟨some 96, .fa 2 (.t 6), none⟩,
  ⟨some 97, .ld 1 false (.t 96), none⟩,
  ⟨some 98, .mv (.t 5), none⟩,
  ⟨some 99, .call (.c (.clo 87 [])) [.t 98], none⟩,
  ⟨some 100, .rowOf 1 [.i .i64 0] 1 [(0, .t 99)], none⟩,
  ⟨some 101, .ap 1 8 (.t 97) (.t 100), none⟩,
  ⟨some 102, .fa 2 (.t 6), none⟩,
  ⟨none, .st 1 (.t 102) (.t 101), none⟩]
def a40_r20 : List AOper := [⟨some 94, .mv (.t 12), none⟩,
  ⟨some 95, .bin .add (.t 94) (.c (.i .i64 1)), none⟩,
  ⟨some 12, .mv (.t 95), none⟩]
def a40_l3 : ACode := .seq (.seq (.reg a40_r19 false []) (.cond (.t 93) (.skip) (.exit 4))) (.seq (.block 5 (.reg a40_r21 true [(1, 3), (1, 4)])) (.reg a40_r20 false []))
def a40_r22 : List AOper := [⟨some 103, .mv (.t 5), none⟩,
  ⟨some 104, .call (.c (.clo 87 [])) [.t 103], none⟩,
  ⟨some 13, .mv (.t 104), none⟩]
def a40_r23 : List AOper := [⟨some 105, .mv (.t 5), none⟩,
  ⟨some 106, .mv (.t 5), none⟩,
  ⟨some 107, .nc (.t 106), none⟩,
  ⟨some 108, .fa 2 (.t 107), none⟩,
  ⟨some 109, .ld 1 false (.t 108), none⟩,
  ⟨some 110, .mv (.t 109), none⟩,
  ⟨some 111, .mv (.t 13), some (110, true)⟩,
  ⟨some 112, .call (.c (.clo 85 [])) [.t 111, .c (.i .i64 0), .c (.i .i64 6)], some (110, true)⟩,
  ⟨some 113, .pick (.t 110) (.t 112) (.c (.b false)), none⟩,
  ⟨some 114, .nc (.t 105), none⟩,
  ⟨some 115, .fa 2 (.t 114), none⟩,
  ⟨none, .st 1 (.t 115) (.t 113), none⟩]
def a40_r24 : List AOper := [⟨some 14, .mv (.c (.i .i64 0)), none⟩]
def a40_r25 : List AOper := [⟨some 116, .mv (.t 14), none⟩,
  ⟨some 117, .mv (.t 13), none⟩,
  ⟨some 118, .bin .lss (.t 116) (.t 117), none⟩,
  ⟨some 119, .mv (.t 118), none⟩,
  ⟨some 120, .mv (.t 5), some (119, true)⟩,
  ⟨some 121, .nc (.t 120), some (119, true)⟩,
  ⟨some 122, .fa 2 (.t 121), some (119, true)⟩,
  ⟨some 123, .ld 1 false (.t 122), some (119, true)⟩,
  ⟨some 124, .pick (.t 119) (.t 123) (.c (.b false)), none⟩]
def a40_r27 : List AOper := [⟨some 127, .mv (.t 5), none⟩,
  ⟨some 128, .call (.c (.clo 87 [])) [.t 127], none⟩,
  ⟨some 129, .build [.i .i64 0, .i .i64 0, .i .i64 0] [(0, 1, .t 128)], none⟩,
  ⟨some 15, .new [.i .i64 0, .i .i64 0, .i .i64 0], none⟩,
  ⟨none, .st 3 (.t 15) (.t 129), none⟩]
def a40_r28 : List AOper := [⟨some 130, .mv (.t 5), none⟩,
  ⟨some 131, .call (.c (.clo 87 [])) [.t 130], none⟩,
  ⟨some 132, .fa 1 (.t 15), none⟩,
  ⟨none, .st 1 (.t 132) (.t 131), none⟩]
def a40_r29 : List AOper := [⟨some 133, .mv (.t 5), none⟩,
  ⟨some 134, .call (.c (.clo 87 [])) [.t 133], none⟩,
  ⟨some 135, .fa 2 (.t 15), none⟩,
  ⟨none, .st 1 (.t 135) (.t 134), none⟩]
def a40_r30 : List AOper := [⟨some 136, .fa 4 (.t 6), none⟩,
  ⟨some 137, .ld 1 false (.t 136), none⟩,
  ⟨some 138, .ld 3 true (.t 15), none⟩,
  ⟨some 139, .rowOf 3 [.i .i64 0, .i .i64 0, .i .i64 0] 1 [(0, .t 138)], none⟩,
  ⟨some 140, .ap 3 24 (.t 137) (.t 139), none⟩,
  ⟨some 141, .fa 4 (.t 6), none⟩,
  ⟨none, .st 1 (.t 141) (.t 140), none⟩]
def a40_r26 : List AOper := [⟨some 125, .mv (.t 14), none⟩,
  ⟨some 126, .bin .add (.t 125) (.c (.i .i64 1)), none⟩,
  ⟨some 14, .mv (.t 126), none⟩]
def a40_l4 : ACode := .seq (.seq (.reg a40_r25 false []) (.cond (.t 124) (.skip) (.exit 6))) (.seq (.block 7 (.seq (.reg a40_r27 false []) (.seq (.reg a40_r28 false []) (.seq (.reg a40_r29 false []) (.reg a40_r30 false []))))) (.reg a40_r26 false []))
def a40_r31 : List AOper := [⟨some 143, .ld 5 true (.t 6), none⟩,
  ⟨some 144, .mv (.t 7), none⟩,
  ⟨some 145, .call (.c (.clo 88 [])) [.t 143, .t 144], none⟩,
  ⟨some 142, .mv (.t 145), none⟩,
  ⟨some 146, .ex (.t 142) 0, none⟩,
  ⟨some 147, .ex (.t 142) 1, none⟩,
  ⟨some 16, .mv (.t 146), none⟩,
  ⟨some 17, .mv (.t 147), none⟩]
def a40_r32 : List AOper := [⟨some 148, .mv (.t 5), none⟩,
  ⟨some 149, .nc (.t 148), none⟩,
  ⟨some 150, .fa 2 (.t 149), none⟩,
  ⟨some 151, .ld 1 false (.t 150), none⟩,
  ⟨some 152, .un .not (.t 151), none⟩,
  ⟨some 153, .mv (.t 152), none⟩,
  ⟨some 154, .mv (.t 5), some (153, false)⟩,
  ⟨some 155, .nc (.t 154), some (153, false)⟩,
  ⟨some 156, .fa 1 (.t 155), some (153, false)⟩,
  ⟨some 157, .ld 1 false (.t 156), some (153, false)⟩,
  ⟨some 158, .mv (.t 0), some (153, false)⟩,
  ⟨some 159, .len false (.t 158), some (153, false)⟩,
  ⟨some 160, .bin .neq (.t 157) (.t 159), some (153, false)⟩,
  ⟨some 161, .pick (.t 153) (.c (.b true)) (.t 160), none⟩,
  ⟨some 162, .mv (.t 161), none⟩,
  ⟨some 163, .mv (.t 17), some (162, false)⟩,
  ⟨some 164, .un .not (.t 163), some (162, false)⟩,
  ⟨some 165, .pick (.t 162) (.c (.b true)) (.t 164), none⟩,
  ⟨some 166, .mv (.t 165), none⟩,
  ⟨some 167, .mv (.t 16), some (166, false)⟩,
  ⟨some 168, .cvS (.t 167), some (166, false)⟩,
  ⟨some 169, .mv (.t 0), some (166, false)⟩,
  ⟨some 170, .cvS (.t 169), some (166, false)⟩,
  ⟨some 171, .bin .neq (.t 168) (.t 170), some (166, false)⟩,
  ⟨some 172, .pick (.t 166) (.c (.b true)) (.t 171), none⟩]
def a40_r33 : List AOper := [⟨some 173, .build [.b false, .emp, .emp, .emp, .emp] [], none⟩,
  ⟨some 174, .rowOf 1 [.i .i64 0] 0 [], none⟩,
  ⟨none, .st 5 (.t 2) (.t 173), none⟩,
  ⟨some 3, .mv (.t 174), none⟩,
  ⟨some 4, .mv (.c (.b false)), none⟩]
def a40_r34 : List AOper := [⟨some 175, .ld 5 true (.t 6), none⟩,
  ⟨some 176, .mv (.t 7), none⟩,
  ⟨none, .st 5 (.t 2) (.t 175), none⟩,
  ⟨some 3, .mv (.t 176), none⟩,
  ⟨some 4, .mv (.c (.b true)), none⟩]
def a40 : AFn := ⟨[false], .seq (.reg a40_r0 false []) (.seq (.reg a40_r1 false []) (.seq (.reg a40_r2 false []) (.seq (.reg a40_r3 false []) (.seq (.reg a40_r4 false []) (.seq (.reg a40_r5 false []) (.seq (.seq (.reg a40_r6 false []) (.block 0 (.loop [] a40_l1))) (.seq (.seq (.reg a40_r12 false []) (.cond (.t 74) (.seq (.seq (.reg a40_r13 false []) (.block 2 (.loop [] a40_l2))) (.seq (.seq (.reg a40_r18 false []) (.block 4 (.loop [] a40_l3))) (.seq (.reg a40_r22 false []) (.seq (.reg a40_r23 false []) (.seq (.reg a40_r24 false []) (.block 6 (.loop [] a40_l4))))))) (.skip))) (.seq (.reg a40_r31 false []) (.seq (.seq (.reg a40_r32 false []) (.cond (.t 172) (.seq (.reg a40_r33 false []) (.ret)) (.skip))) (.seq (.reg a40_r34 false []) (.ret))))))))))), [.cell 2 5 true, .t 3, .t 4], []⟩
theorem reads40 : readFn Try.prog Try.f40 [false] [] [[], [], [], []] = some a40 := by kernel_rfl
-- spec.l1New
def a59_r0 : List AOper := [⟨some 2, .mv (.c (.junk)), none⟩]
def a59_r1 : List AOper := [⟨some 5, .mv (.t 0), none⟩,
  ⟨some 6, .len false (.t 5), none⟩,
  ⟨some 7, .bin .add (.c (.i .i64 18665)) (.t 6), none⟩,
  ⟨some 3, .mv (.t 7), none⟩]
def a59_r2 : List AOper := [⟨some 4, .mv (.c (.i .i64 0)), none⟩]
def a59_r3 : List AOper := [⟨some 8, .mv (.t 4), none⟩,
  ⟨some 9, .mv (.t 0), none⟩,
  ⟨some 10, .len false (.t 9), none⟩,
  ⟨some 11, .bin .lss (.t 8) (.t 10), none⟩,
  ⟨some 12, .mv (.t 11), none⟩,
  ⟨some 13, .mv (.t 4), some (12, true)⟩,
  ⟨some 14, .bin .lss (.t 13) (.c (.i .i64 4000)), some (12, true)⟩,
  ⟨some 15, .pick (.t 12) (.t 14) (.c (.b false)), none⟩]
def a59_r5 : List AOper := [⟨some 18, .mv (.t 3), none⟩,
  ⟨some 19, .bin .mul (.t 18) (.c (.i .i64 131)), none⟩,
  ⟨some 20, .mv (.t 0), none⟩,
  ⟨some 21, .mv (.t 4), none⟩,
  ⟨some 22, .ia 1 (.t 20) (.t 21), none⟩,
  ⟨some 23, .ld 1 false (.t 22), none⟩,
  ⟨some 24, .cvI .i64 (.t 23), none⟩,
  ⟨some 25, .bin .add (.t 19) (.t 24), none⟩,
  ⟨some 26, .bin .add (.t 25) (.c (.i .i64 7)), none⟩,
  ⟨some 27, .bin .and (.t 26) (.c (.i .i64 1073741823)), none⟩,
  ⟨some 3, .mv (.t 27), none⟩]
def a59_r4 : List AOper := [⟨some 16, .mv (.t 4), none⟩,
  ⟨some 17, .bin .add (.t 16) (.c (.i .i64 1)), none⟩,
  ⟨some 4, .mv (.t 17), none⟩]
def a59_l1 : ACode := .seq (.seq (.reg a59_r3 false []) (.cond (.t 15) (.skip) (.exit 0))) (.seq (.block 1 (.reg a59_r5 false [])) (.reg a59_r4 false []))
def a59_r6 : List AOper := [⟨some 28, .mv (.t 0), none⟩,
  ⟨some 29, .mv (.t 3), none⟩,
  ⟨some 30, .build [.emp, .i .i64 0, .i .i64 0] [(0, 1, .t 28), (2, 1, .t 29)], none⟩,
  ⟨some 31, .box (.t 30), none⟩,
  ⟨some 2, .mv (.t 31), none⟩]
def a59 : AFn := ⟨[false], .seq (.reg a59_r0 false []) (.seq (.reg a59_r1 false []) (.seq (.seq (.reg a59_r2 false []) (.block 0 (.loop [] a59_l1))) (.seq (.reg a59_r6 false []) (.ret)))), [.t 2], []⟩
theorem reads59 : readFn Try.prog Try.f59 [false] [] [[]] = some a59 := by kernel_rfl
-- spec.l2Draw
def a60_r0 : List AOper := [⟨some 4, .new [.b false, .emp, .emp, .emp, .emp], none⟩]
def a60_r1 : List AOper := [⟨some 7, .mv (.t 0), none⟩,
  ⟨some 8, .mv (.t 1), none⟩,
  ⟨some 9, .call (.c (.clo 112 [])) [.t 7, .t 8], none⟩,
  ⟨some 5, .new [.b false, .emp, .emp, .emp, .emp], none⟩,
  ⟨none, .st 5 (.t 5) (.t 9), none⟩]
def a60_r2 : List AOper := [⟨some 10, .mv (.t 0), none⟩,
  ⟨some 11, .call (.c (.clo 77 [])) [.t 10, .c (.i .i64 25)], none⟩]
def a60_r3 : List AOper := [⟨some 13, .bin .eql (.t 11) (.c (.i .i64 0)), none⟩,
  ⟨some 12, .mv (.t 13), none⟩]
def a60_r4 : List AOper := [⟨some 14, .fa 0 (.t 5), none⟩,
  ⟨some 15, .ld 1 false (.t 14), none⟩,
  ⟨some 16, .un .not (.t 15), none⟩,
  ⟨some 17, .fa 0 (.t 5), none⟩,
  ⟨none, .st 1 (.t 17) (.t 16), none⟩]
def a60_r5 : List AOper := [⟨some 19, .bin .eql (.t 11) (.c (.i .i64 1)), none⟩,
  ⟨some 18, .mv (.t 19), none⟩]
def a60_r6 : List AOper := [⟨some 20, .fa 4 (.t 5), none⟩,
  ⟨some 21, .ld 1 false (.t 20), none⟩,
  ⟨some 22, .mv (.t 0), none⟩,
  ⟨some 23, .call (.c (.clo 113 [])) [.t 22], none⟩,
  ⟨some 24, .rowOf 3 [.i .i64 0, .i .i64 0, .i .i64 0] 1 [(0, .t 23)], none⟩,
  ⟨some 25, .ap 3 24 (.t 21) (.t 24), none⟩,
  ⟨some 26, .fa 4 (.t 5), none⟩,
  ⟨none, .st 1 (.t 26) (.t 25), none⟩]
def a60_r7 : List AOper := [⟨some 28, .bin .eql (.t 11) (.c (.i .i64 2)), none⟩,
  ⟨some 27, .mv (.t 28), none⟩]
def a60_r8 : List AOper := [⟨some 29, .fa 1 (.t 5), none⟩,
  ⟨some 30, .ld 1 false (.t 29), none⟩,
  ⟨some 31, .mv (.t 0), none⟩,
  ⟨some 32, .call (.c (.clo 77 [])) [.t 31, .c (.i .i64 40)], none⟩,
  ⟨some 33, .build [.i .i64 0, .i .i64 0] [(0, 1, .t 32)], none⟩,
  ⟨some 34, .rowOf 2 [.i .i64 0, .i .i64 0] 1 [(0, .t 33)], none⟩,
  ⟨some 35, .ap 2 16 (.t 30) (.t 34), none⟩,
  ⟨some 36, .fa 1 (.t 5), none⟩,
  ⟨none, .st 1 (.t 36) (.t 35), none⟩]
def a60_r9 : List AOper := [⟨some 38, .bin .eql (.t 11) (.c (.i .i64 3)), none⟩,
  ⟨some 37, .mv (.t 38), none⟩]
def a60_r10 : List AOper := [⟨some 39, .fa 2 (.t 5), none⟩,
  ⟨some 40, .ld 1 false (.t 39), none⟩,
  ⟨some 41, .len false (.t 40), none⟩,
  ⟨some 42, .bin .gtr (.t 41) (.c (.i .i64 0)), none⟩]
def a60_r11 : List AOper := [⟨some 43, .fa 2 (.t 5), none⟩,
  ⟨some 44, .ld 1 false (.t 43), none⟩,
  ⟨some 45, .mv (.t 0), none⟩,
  ⟨some 46, .call (.c (.clo 77 [])) [.t 45, .c (.i .i64 40)], none⟩,
  ⟨some 47, .ia 1 (.t 44) (.c (.i .i64 0)), none⟩,
  ⟨none, .st 1 (.t 47) (.t 46), none⟩]
def a60_r12 : List AOper := [⟨some 49, .bin .eql (.t 11) (.c (.i .i64 4)), none⟩,
  ⟨some 48, .mv (.t 49), none⟩]
def a60_r13 : List AOper := [⟨some 50, .fa 3 (.t 5), none⟩,
  ⟨some 51, .ld 1 false (.t 50), none⟩,
  ⟨some 52, .len false (.t 51), none⟩,
  ⟨some 53, .bin .gtr (.t 52) (.c (.i .i64 0)), none⟩]
def a60_r14 : List AOper := [⟨some 54, .fa 3 (.t 5), none⟩,
  ⟨some 55, .ld 1 false (.t 54), none⟩,
  ⟨some 56, .call (.c (.clo 114 [])) [], none⟩,
  ⟨some 57, .ia 5 (.t 55) (.c (.i .i64 0)), none⟩,
  ⟨none, .st 5 (.t 57) (.t 56), none⟩]
def a60_r15 : List AOper := [⟨some 59, .bin .eql (.t 11) (.c (.i .i64 5)), none⟩,
  ⟨some 58, .mv (.t 59), none⟩]
def a60_r16 : List AOper := [⟨some 60, .fa 3 (.t 5), none⟩,
  ⟨some 61, .ld 1 false (.t 60), none⟩,
  ⟨some 62, .len false (.t 61), none⟩,
  ⟨some 63, .bin .gtr (.t 62) (.c (.i .i64 1)), none⟩]
def a60_r17 : List AOper := [⟨some 64, .fa 3 (.t 5), none⟩,
  ⟨some 65, .ld 1 false (.t 64), none⟩,
  ⟨some 66, .ia 5 (.t 65) (.c (.i .i64 1)), none⟩,
  ⟨some 67, .ld 5 true (.t 66), none⟩,
  ⟨some 68, .call (.c (.clo 115 [])) [.t 67], none⟩,
  ⟨some 6, .new [.b false, .emp, .emp, .emp, .emp], none⟩,
  ⟨none, .st 5 (.t 6) (.t 68), none⟩]
def a60_r18 : List AOper := [⟨some 69, .fa 3 (.t 5), none⟩,
  ⟨some 70, .ld 1 false (.t 69), none⟩,
  ⟨some 71, .ld 5 true (.t 6), none⟩,
  ⟨some 72, .ia 5 (.t 70) (.c (.i .i64 0)), none⟩,
  ⟨none, .st 5 (.t 72) (.t 71), none⟩]
def a60_r19 : List AOper := [⟨some 73, .ld 5 true (.t 5), none⟩,
  ⟨none, .st 5 (.t 4) (.t 73), none⟩]
def a60 : AFn := ⟨[true, false], .seq (.reg a60_r0 false []) (.seq (.reg a60_r1 false []) (.seq (.seq (.reg a60_r2 false []) (.block 0 (.seq (.reg a60_r3 false []) (.cond (.t 12) (.reg a60_r4 false []) (.seq (.reg a60_r5 false []) (.cond (.t 18) (.reg a60_r6 true [(1, 3), (1, 4)]) (.seq (.reg a60_r7 false []) (.cond (.t 27) (.reg a60_r8 true [(1, 3), (1, 5)]) (.seq (.reg a60_r9 false []) (.cond (.t 37) (.seq (.reg a60_r10 false []) (.cond (.t 42) (.reg a60_r11 true [(1, 3)]) (.skip))) (.seq (.reg a60_r12 false []) (.cond (.t 48) (.seq (.reg a60_r13 false []) (.cond (.t 53) (.reg a60_r14 true [(1, 2)]) (.skip))) (.seq (.reg a60_r15 false []) (.cond (.t 58) (.seq (.reg a60_r16 false []) (.cond (.t 63) (.seq (.reg a60_r17 false []) (.reg a60_r18 false [])) (.skip))) (.skip))))))))))))))) (.seq (.reg a60_r19 false []) (.ret)))), [.cell 4 5 true], []⟩
theorem reads60 : readFn Try.prog Try.f60 [true, false] [] [] = some a60 := by kernel_rfl
-- spec.l1DrawKey
def a61_r0 : List AOper := [⟨some 2, .mv (.c (.i .i64 0)), none⟩]
def a61_r1 : List AOper := [⟨some 3, .mv (.t 0), none⟩,
  ⟨some 4, .call (.c (.clo 86 [])) [.t 3, .c (.i .i64 15)], none⟩]
def a61_r2 : List AOper := [⟨some 5, .mv (.t 0), none⟩,
  ⟨some 6, .rowOf 1 [.i .i64 0] 3 [(0, .c (.i .i64 0)), (1, .c (.i .i64 999)), (2, .c (.i .i64 500))], none⟩,
  ⟨some 7, .call (.c (.clo 116 [])) [.t 5, .t 6], none⟩,
  ⟨some 2, .mv (.t 7), none⟩]
def a61_r3 : List AOper := [⟨some 8, .mv (.t 0), none⟩,
  ⟨some 9, .call (.c (.clo 77 [])) [.t 8, .c (.i .i64 30)], none⟩,
  ⟨some 2, .mv (.t 9), none⟩]
def a61 : AFn := ⟨[true], .seq (.reg a61_r0 false []) (.seq (.seq (.reg a61_r1 false []) (.cond (.t 4) (.seq (.reg a61_r2 false []) (.ret)) (.skip))) (.seq (.reg a61_r3 false []) (.ret))), [.t 2], []⟩
theorem reads61 : readFn Try.prog Try.f61 [true] [] [] = some a61 := by kernel_rfl
-- spec.l2Depth
def a68_r0 : List AOper := [⟨some 4, .box (.t 0), none⟩,
  ⟨some 8, .mv (.c (.i .i64 0)), none⟩]
def a68_r1 : List AOper := [⟨some 16, .mv (.t 3), none⟩,
  ⟨some 17, .bin .eql (.t 16) (.c (.i .i64 0)), none⟩]
def a68_r2 : List AOper := [⟨some 8, .mv (.c (.i .i64 0)), none⟩]
def a68_r3 : List AOper := [⟨some 18, .fa 0 (.t 4), none⟩,
  ⟨some 19, .ld 1 false (.t 18), none⟩]
def a68_r4 : List AOper := [⟨some 20, .ld 5 true (.t 4), none⟩,
  ⟨some 21, .mv (.t 1), none⟩,
  ⟨some 22, .mv (.t 2), none⟩,
  ⟨some 23, .call (.c (.clo 122 [])) [.t 20, .t 21, .t 22], none⟩,
  ⟨some 8, .mv (.t 23), none⟩]
def a68_r5 : List AOper := [⟨some 24, .fa 3 (.t 4), none⟩,
  ⟨some 25, .ld 1 false (.t 24), none⟩,
  ⟨some 26, .len false (.t 25), none⟩,
  ⟨some 9, .mv (.t 26), none⟩]
def a68_r6 : List AOper := [⟨some 27, .fa 1 (.t 4), none⟩,
  ⟨some 28, .ld 1 false (.t 27), none⟩,
  ⟨some 29, .len false (.t 28), none⟩,
  ⟨some 30, .bin .gtr (.t 29) (.c (.i .i64 0)), none⟩,
  ⟨some 31, .mv (.t 30), none⟩,
  ⟨some 32, .mv (.t 9), some (31, false)⟩,
  ⟨some 33, .call (.c (.clo 85 [])) [.t 32, .c (.i .i64 2), .c (.i .i64 4)], some (31, false)⟩,
  ⟨some 34, .un .not (.t 33), some (31, false)⟩,
  ⟨some 35, .pick (.t 31) (.c (.b true)) (.t 34), none⟩,
  ⟨some 36, .mv (.t 35), none⟩,
  ⟨some 37, .fa 2 (.t 4), some (36, false)⟩,
  ⟨some 38, .ld 1 false (.t 37), some (36, false)⟩,
  ⟨some 39, .len false (.t 38), some (36, false)⟩,
  ⟨some 40, .mv (.t 9), some (36, false)⟩,
  ⟨some 41, .bin .sub (.t 40) (.c (.i .i64 1)), some (36, false)⟩,
  ⟨some 42, .bin .neq (.t 39) (.t 41), some (36, false)⟩,
  ⟨some 43, .pick (.t 36) (.c (.b true)) (.t 42), none⟩,
  ⟨some 44, .mv (.t 43), none⟩,
  ⟨some 45, .fa 4 (.t 4), some (44, false)⟩,
  ⟨some 46, .ld 1 false (.t 45), some (44, false)⟩,
  ⟨some 47, .len false (.t 46), some (44, false)⟩,
  ⟨some 48, .bin .gtr (.t 47) (.c (.i .i64 6)), some (44, false)⟩,
  ⟨some 49, .pick (.t 44) (.c (.b true)) (.t 48), none⟩]
def a68_r7 : List AOper := [⟨some 8, .mv (.c (.i .i64 0)), none⟩]
def a68_r8 : List AOper := [⟨some 10, .mv (.c (.i .i64 0)), none⟩]
def a68_r9 : List AOper := [⟨some 50, .mv (.t 10), none⟩,
  ⟨some 51, .fa 4 (.t 4), none⟩,
  ⟨some 52, .ld 1 false (.t 51), none⟩,
  ⟨some 53, .len false (.t 52), none⟩,
  ⟨some 54, .bin .lss (.t 50) (.t 53), none⟩]
def a68_r11 : List AOper := [⟨some 57, .fa 4 (.t 4), none⟩,
  ⟨some 58, .ld 1 false (.t 57), none⟩,
  ⟨some 59, .mv (.t 10), none⟩,
  ⟨some 60, .ia 3 (.t 58) (.t 59), none⟩,
  ⟨some 61, .ld 3 true (.t 60), none⟩,
  ⟨some 62, .call (.c (.clo 123 [])) [.t 61], none⟩,
  ⟨some 63, .un .not (.t 62), none⟩,
  ⟨some 64, .mv (.t 63), none⟩,
  ⟨some 65, .fa 4 (.t 4), some (64, false)⟩,
  ⟨some 66, .ld 1 false (.t 65), some (64, false)⟩,
  ⟨some 67, .mv (.t 10), some (64, false)⟩,
  ⟨some 68, .ia 3 (.t 66) (.t 67), some (64, false)⟩,
  ⟨some 69, .fa 0 (.t 68), some (64, false)⟩,
  ⟨some 70, .ld 1 false (.t 69), some (64, false)⟩,
  ⟨some 71, .bin .eql (.t 70) (.c (.i .i64 4)), some (64, false)⟩,
  ⟨some 72, .pick (.t 64) (.c (.b true)) (.t 71), none⟩,
  ⟨some 73, .mv (.t 72), none⟩,
  ⟨some 74, .fa 4 (.t 4), some (73, false)⟩,
  ⟨some 75, .ld 1 false (.t 74), some (73, false)⟩,
  ⟨some 76, .mv (.t 10), some (73, false)⟩,
  ⟨some 77, .ia 3 (.t 75) (.t 76), some (73, false)⟩,
  ⟨some 78, .fa 1 (.t 77), some (73, false)⟩,
  ⟨some 79, .ld 1 false (.t 78), some (73, false)⟩,
  ⟨some 80, .mv (.t 1), some (73, false)⟩,
  ⟨some 81, .mv (.t 2), some (73, false)⟩,
  ⟨some 82, .bin .sub (.t 81) (.c (.i .i64 1)), some (73, false)⟩,
  ⟨some 83, .call (.c (.clo 85 [])) [.t 79, .t 80, .t 82], some (73, false)⟩,
  ⟨some 84, .un .not (.t 83), some (73, false)⟩,
  ⟨some 85, .pick (.t 73) (.c (.b true)) (.t 84), none⟩]
def a68_r12 : List AOper := [⟨some 8, .mv (.c (.i .i64 0)), none⟩]
def a68_r10 : List AOper := [⟨some 55, .mv (.t 10), none⟩,
  ⟨some 56, .bin .add (.t 55) (.c (.i .i64 1)), none⟩,
  ⟨some 10, .mv (.t 56), none⟩]
def a68_l1 : ACode := .seq (.seq (.reg a68_r9 false []) (.cond (.t 54) (.skip) (.exit 0))) (.seq (.block 1 (.seq (.reg a68_r11 false []) (.cond (.t 85) (.seq (.reg a68_r12 false []) (.ret)) (.skip)))) (.reg a68_r10 false []))
def a68_r13 : List AOper := [⟨some 11, .mv (.c (.i .i64 0)), none⟩]
def a68_r14 : List AOper := [⟨some 86, .mv (.t 1), none⟩,
  ⟨some 12, .mv (.t 86), none⟩]
def a68_r15 : List AOper := [⟨some 13, .mv (.c (.i .i64 0)), none⟩]
def a68_r16 : List AOper := [⟨some 87, .mv (.t 13), none⟩,
  ⟨some 88, .mv (.t 9), none⟩,
  ⟨some 89, .bin .lss (.t 87) (.t 88), none⟩]
def a68_r18 : List AOper := [⟨some 92, .mv (.t 2), none⟩,
  ⟨some 14, .mv (.t 92), none⟩]
def a68_r19 : List AOper := [⟨some 93, .mv (.t 13), none⟩,
  ⟨some 94, .mv (.t 9), none⟩,
  ⟨some 95, .bin .sub (.t 94) (.c (.i .i64 1)), none⟩,
  ⟨some 96, .bin .lss (.t 93) (.t 95), none⟩]
def a68_r20 : List AOper := [⟨some 97, .fa 2 (.t 4), none⟩,
  ⟨some 98, .ld 1 false (.t 97), none⟩,
  ⟨some 99, .mv (.t 13), none⟩,
  ⟨some 100, .ia 1 (.t 98) (.t 99), none⟩,
  ⟨some 101, .ld 1 false (.t 100), none⟩,
  ⟨some 14, .mv (.t 101), none⟩]
def a68_r21 : List AOper := [⟨some 102, .mv (.t 14), none⟩,
  ⟨some 103, .mv (.t 12), none⟩,
  ⟨some 104, .bin .add (.t 103) (.c (.i .i64 1)), none⟩,
  ⟨some 105, .mv (.t 2), none⟩,
  ⟨some 106, .bin .sub (.t 105) (.c (.i .i64 1)), none⟩,
  ⟨some 107, .call (.c (.clo 85 [])) [.t 102, .t 104, .t 106], none⟩,
  ⟨some 108, .un .not (.t 107), none⟩]
def a68_r22 : List AOper := [⟨some 8, .mv (.c (.i .i64 0)), none⟩]
def a68_r23 : List AOper := [⟨some 109, .fa 3 (.t 4), none⟩,
  ⟨some 110, .ld 1 false (.t 109), none⟩,
  ⟨some 111, .mv (.t 13), none⟩,
  ⟨some 112, .ia 5 (.t 110) (.t 111), none⟩,
  ⟨some 113, .ld 5 true (.t 112), none⟩,
  ⟨some 114, .mv (.t 12), none⟩,
  ⟨some 115, .mv (.t 14), none⟩,
  ⟨some 116, .mv (.t 3), none⟩,
  ⟨some 117, .bin .sub (.t 116) (.c (.i .i64 1)), none⟩,
  ⟨some 118, .call (.c (.clo 68 [])) [.t 113, .t 114, .t 115, .t 117], none⟩,
  ⟨some 15, .mv (.t 118), none⟩]
def a68_r24 : List AOper := [⟨some 119, .mv (.t 15), none⟩,
  ⟨some 120, .bin .eql (.t 119) (.c (.i .i64 0)), none⟩,
  ⟨some 121, .mv (.t 120), none⟩,
  ⟨some 122, .mv (.t 13), some (121, false)⟩,
  ⟨some 123, .bin .gtr (.t 122) (.c (.i .i64 0)), some (121, false)⟩,
  ⟨some 124, .mv (.t 123), some (121, false)⟩,
  ⟨some 125, .mv (.t 15), some (124, true)⟩,
  ⟨some 126, .mv (.t 11), some (124, true)⟩,
  ⟨some 127, .bin .neq (.t 125) (.t 126), some (124, true)⟩,
  ⟨some 128, .pick (.t 124) (.t 127) (.c (.b false)), some (121, false)⟩,
  ⟨some 129, .pick (.t 121) (.c (.b true)) (.t 128), none⟩]
def a68_r25 : List AOper := [⟨some 8, .mv (.c (.i .i64 0)), none⟩]
def a68_r26 : List AOper := [⟨some 130, .mv (.t 15), none⟩,
  ⟨some 11, .mv (.t 130), none⟩]
def a68_r27 : List AOper := [⟨some 131, .mv (.t 14), none⟩,
  ⟨some 12, .mv (.t 131), none⟩]
def a68_r17 : List AOper := [⟨some 90, .mv (.t 13), none⟩,
  ⟨some 91, .bin .add (.t 90) (.c (.i .i64 1)), none⟩,
  ⟨some 13, .mv (.t 91), none⟩]
def a68_l2 : ACode := .seq (.seq (.reg a68_r16 false []) (.cond (.t 89) (.skip) (.exit 2))) (.seq (.block 3 (.seq (.reg a68_r18 false []) (.seq (.seq (.reg a68_r19 false []) (.cond (.t 96) (.seq (.reg a68_r20 false []) (.seq (.reg a68_r21 false []) (.cond (.t 108) (.seq (.reg a68_r22 false []) (.ret)) (.skip)))) (.skip))) (.seq (.reg a68_r23 false []) (.seq (.seq (.reg a68_r24 false []) (.cond (.t 129) (.seq (.reg a68_r25 false []) (.ret)) (.skip))) (.seq (.reg a68_r26 false []) (.reg a68_r27 false []))))))) (.reg a68_r17 false []))
def a68_r28 : List AOper := [⟨some 132, .mv (.t 11), none⟩,
  ⟨some 133, .bin .add (.t 132) (.c (.i .i64 1)), none⟩,
  ⟨some 8, .mv (.t 133), none⟩]
def a68 : AFn := ⟨[false, false, false, false], .seq (.reg a68_r0 false []) (.seq (.seq (.reg a68_r1 false []) (.cond (.t 17) (.seq (.reg a68_r2 false []) (.ret)) (.skip))) (.seq (.seq (.reg a68_r3 false []) (.cond (.t 19) (.seq (.reg a68_r4 false []) (.ret)) (.skip))) (.seq (.reg a68_r5 false []) (.seq (.seq (.reg a68_r6 false []) (.cond (.t 49) (.seq (.reg a68_r7 false []) (.ret)) (.skip))) (.seq (.seq (.reg a68_r8 false []) (.block 0 (.loop [] a68_l1))) (.seq (.reg a68_r13 false []) (.seq (.reg a68_r14 false []) (.seq (.seq (.reg a68_r15 false []) (.block 2 (.loop [] a68_l2))) (.seq (.reg a68_r28 false []) (.ret)))))))))), [.t 8], []⟩
theorem reads68 : readFn Try.prog Try.f68 [false, false, false, false] [] [[], []] = some a68 := by kernel_rfl
-- spec.MapGet
def a72_r0 : List AOper := [⟨some 4, .mv (.c (.i .i64 0)), none⟩,
  ⟨some 5, .mv (.c (.b false)), none⟩]
def a72_r1 : List AOper := [⟨some 6, .mv (.c (.i .i64 0)), none⟩]
def a72_r2 : List AOper := [⟨some 7, .mv (.t 6), none⟩,
  ⟨some 8, .mv (.t 0), none⟩,
  ⟨some 9, .len false (.t 8), none⟩,
  ⟨some 10, .bin .lss (.t 7) (.t 9), none⟩]
def a72_r4 : List AOper := [⟨some 13, .mv (.t 0), none⟩,
  ⟨some 14, .mv (.t 6), none⟩,
  ⟨some 15, .ia 2 (.t 13) (.t 14), none⟩,
  ⟨some 16, .fa 0 (.t 15), none⟩,
  ⟨some 17, .ld 1 false (.t 16), none⟩,
  ⟨some 18, .mv (.t 1), none⟩,
  ⟨some 19, .bin .eql (.t 17) (.t 18), none⟩]
def a72_r5 : List AOper := [⟨some 20, .mv (.t 0), none⟩,
  ⟨some 21, .mv (.t 6), none⟩,
  ⟨some 22, .ia 2 (.t 20) (.t 21), none⟩,
  ⟨some 23, .fa 1 (.t 22), none⟩,
  ⟨some 24, .ld 1 false (.t 23), none⟩,
  ⟨some 4, .mv (.t 24), none⟩,
  ⟨some 5, .mv (.c (.b true)), none⟩]
def a72_r3 : List AOper := [⟨some 11, .mv (.t 6), none⟩,
  ⟨some 12, .bin .add (.t 11) (.c (.i .i64 1)), none⟩,
  ⟨some 6, .mv (.t 12), none⟩]
def a72_l1 : ACode := .seq (.seq (.reg a72_r2 false []) (.cond (.t 10) (.skip) (.exit 0))) (.seq (.block 1 (.seq (.reg a72_r4 false []) (.cond (.t 19) (.seq (.reg a72_r5 false []) (.ret)) (.skip)))) (.reg a72_r3 false []))
def a72_r6 : List AOper := [⟨some 4, .mv (.c (.i .i64 0)), none⟩,
  ⟨some 5, .mv (.c (.b false)), none⟩]
def a72 : AFn := ⟨[false, false], .seq (.reg a72_r0 false []) (.seq (.seq (.reg a72_r1 false []) (.block 0 (.loop [] a72_l1))) (.seq (.reg a72_r6 false []) (.ret))), [.t 4, .t 5], []⟩
theorem reads72 : readFn Try.prog Try.f72 [false, false] [] [[]] = some a72 := by kernel_rfl
-- spec.MapAll
def a73_r0 : List AOper := [⟨some 4, .mv (.c (.emp)), none⟩]
def a73_r1 : List AOper := [⟨some 7, .rowOf 2 [.i .i64 0, .i .i64 0] 0 [], none⟩,
  ⟨some 8, .mv (.t 0), none⟩,
  ⟨some 9, .ap 2 16 (.t 7) (.t 8), none⟩,
  ⟨some 5, .mv (.t 9), none⟩]
def a73_r2 : List AOper := [⟨some 6, .mv (.c (.i .i64 0)), none⟩]
def a73_r3 : List AOper := [⟨some 10, .mv (.t 6), none⟩,
  ⟨some 11, .mv (.t 1), none⟩,
  ⟨some 12, .len false (.t 11), none⟩,
  ⟨some 13, .bin .lss (.t 10) (.t 12), none⟩]
def a73_r5 : List AOper := [⟨some 16, .mv (.t 5), none⟩,
  ⟨some 17, .mv (.t 1), none⟩,
  ⟨some 18, .mv (.t 6), none⟩,
  ⟨some 19, .ia 3 (.t 17) (.t 18), none⟩,
  ⟨some 20, .ld 3 true (.t 19), none⟩,
  ⟨some 21, .call (.c (.clo 126 [])) [.t 16, .t 20], none⟩,
  ⟨some 5, .mv (.t 21), none⟩]
def a73_r4 : List AOper := [⟨some 14, .mv (.t 6), none⟩,
  ⟨some 15, .bin .add (.t 14) (.c (.i .i64 1)), none⟩,
  ⟨some 6, .mv (.t 15), none⟩]
def a73_l1 : ACode := .seq (.seq (.reg a73_r3 false []) (.cond (.t 13) (.skip) (.exit 0))) (.seq (.block 1 (.reg a73_r5 false [])) (.reg a73_r4 false []))
def a73_r6 : List AOper := [⟨some 22, .mv (.t 5), none⟩,
  ⟨some 4, .mv (.t 22), none⟩]
def a73 : AFn := ⟨[false, false], .seq (.reg a73_r0 false []) (.seq (.reg a73_r1 false []) (.seq (.seq (.reg a73_r2 false []) (.block 0 (.loop [] a73_l1))) (.seq (.reg a73_r6 false []) (.ret)))), [.t 4], []⟩
theorem reads73 : readFn Try.prog Try.f73 [false, false] [] [[]] = some a73 := by kernel_rfl
-- spec.l1Below
def a77_r0 : List AOper := [⟨some 4, .mv (.c (.i .i64 0)), none⟩]
def a77_r1 : List AOper := [⟨some 9, .mv (.t 1), none⟩,
  ⟨some 10, .bin .leq (.t 9) (.c (.i .i64 0)), none⟩]
def a77_r2 : List AOper := [⟨some 4, .mv (.c (.i .i64 0)), none⟩]
def a77_r3 : List AOper := [⟨some 11, .mv (.t 1), none⟩,
  ⟨some 12, .bin .leq (.t 11) (.c (.i .i64 256)), none⟩]
def a77_r4 : List AOper := [⟨some 13, .mv (.t 0), none⟩,
  ⟨some 14, .call (.c (.clo 129 [])) [.t 13], none⟩,
  ⟨some 15, .mv (.t 1), none⟩,
  ⟨some 16, .bin .rem (.t 14) (.t 15), none⟩,
  ⟨some 4, .mv (.t 16), none⟩]
def a77_r5 : List AOper := [⟨some 17, .mv (.t 0), none⟩,
  ⟨some 18, .call (.c (.clo 129 [])) [.t 17], none⟩,
  ⟨some 5, .mv (.t 18), none⟩]
def a77_r6 : List AOper := [⟨some 19, .mv (.t 0), none⟩,
  ⟨some 20, .call (.c (.clo 129 [])) [.t 19], none⟩,
  ⟨some 6, .mv (.t 20), none⟩]
def a77_r7 : List AOper := [⟨some 21, .mv (.t 0), none⟩,
  ⟨some 22, .call (.c (.clo 129 [])) [.t 21], none⟩,
  ⟨some 7, .mv (.t 22), none⟩]
def a77_r8 : List AOper := [⟨some 23, .mv (.t 0), none⟩,
  ⟨some 24, .call (.c (.clo 129 [])) [.t 23], none⟩,
  ⟨some 8, .mv (.t 24), none⟩]
def a77_r9 : List AOper := [⟨some 25, .mv (.t 5), none⟩,
  ⟨some 26, .bin .mul (.t 25) (.c (.i .i64 16777216)), none⟩,
  ⟨some 27, .mv (.t 6), none⟩,
  ⟨some 28, .bin .mul (.t 27) (.c (.i .i64 65536)), none⟩,
  ⟨some 29, .bin .add (.t 26) (.t 28), none⟩,
  ⟨some 30, .mv (.t 7), none⟩,
  ⟨some 31, .bin .mul (.t 30) (.c (.i .i64 256)), none⟩,
  ⟨some 32, .bin .add (.t 29) (.t 31), none⟩,
  ⟨some 33, .mv (.t 8), none⟩,
  ⟨some 34, .bin .add (.t 32) (.t 33), none⟩,
  ⟨some 35, .mv (.t 1), none⟩,
  ⟨some 36, .bin .rem (.t 34) (.t 35), none⟩,
  ⟨some 4, .mv (.t 36), none⟩]
def a77 : AFn := ⟨[true, false], .seq (.reg a77_r0 false []) (.seq (.seq (.reg a77_r1 false []) (.cond (.t 10) (.seq (.reg a77_r2 false []) (.ret)) (.skip))) (.seq (.seq (.reg a77_r3 false []) (.cond (.t 12) (.seq (.reg a77_r4 false []) (.ret)) (.skip))) (.seq (.reg a77_r5 false []) (.seq (.reg a77_r6 false []) (.seq (.reg a77_r7 false []) (.seq (.reg a77_r8 false []) (.seq (.reg a77_r9 false []) (.ret)))))))), [.t 4], []⟩
theorem reads77 : readFn Try.prog Try.f77 [true, false] [] [] = some a77 := by kernel_rfl
-- spec.l6DrawWrites
def a81_r0 : List AOper := [⟨some 2, .new [.emp, .emp], none⟩,
  ⟨some 3, .mv (.c (.emp)), none⟩]
def a81_r1 : List AOper := [⟨some 10, .mv (.t 0), none⟩,
  ⟨some 11, .call (.c (.clo 130 [])) [.t 10], none⟩,
  ⟨some 9, .mv (.t 11), none⟩,
  ⟨some 12, .ex (.t 9) 0, none⟩,
  ⟨some 13, .ex (.t 9) 1, none⟩,
  ⟨some 4, .new [.emp, .emp], none⟩,
  ⟨some 5, .new [.b false, .emp, .emp, .emp, .emp], none⟩,
  ⟨none, .st 2 (.t 4) (.t 12), none⟩,
  ⟨none, .st 5 (.t 5) (.t 13), none⟩]
def a81_r2 : List AOper := [⟨some 15, .ld 2 true (.t 4), none⟩,
  ⟨some 16, .ld 5 true (.t 5), none⟩,
  ⟨some 17, .call (.c (.clo 131 [])) [.t 15, .t 16], none⟩,
  ⟨some 14, .mv (.t 17), none⟩,
  ⟨some 18, .ex (.t 14) 0, none⟩,
  ⟨some 19, .ex (.t 14) 1, none⟩,
  ⟨some 6, .mv (.t 18), none⟩,
  ⟨some 7, .mv (.t 19), none⟩]
def a81_r3 : List AOper := [⟨some 20, .mv (.t 0), none⟩,
  ⟨some 21, .call (.c (.clo 59 [])) [.t 20], none⟩,
  ⟨some 8, .mv (.t 21), none⟩]
def a81_r4 : List AOper := [⟨some 22, .mv (.t 8), none⟩,
  ⟨some 23, .call (.c (.clo 86 [])) [.t 22, .c (.i .i64 9)], none⟩]
def a81_r5 : List AOper := [⟨some 24, .mv (.t 6), none⟩,
  ⟨some 25, .mv (.t 8), none⟩,
  ⟨some 26, .rowOf 1 [.i .i64 0] 5 [(0, .c (.i .i64 (-3))), (1, .c (.i .i64 200)), (2, .c (.i .i64 5)), (3, .c (.i .i64 (-2))), (4, .c (.i .i64 (-9223372036854775808)))], none⟩,
  ⟨some 27, .call (.c (.clo 116 [])) [.t 25, .t 26], none⟩,
  ⟨some 28, .build [.i .i64 0, .s ByteArray.empty, .i .i64 0, .i .i64 0] [(0, 1, .t 27), (1, 1, .c (.s ({ data := #[113] })))], none⟩,
  ⟨some 29, .rowOf 4 [.i .i64 0, .s ByteArray.empty, .i .i64 0, .i .i64 0] 1 [(0, .t 28)], none⟩,
  ⟨some 30, .ap 4 40 (.t 24) (.t 29), none⟩,
  ⟨some 6, .mv (.t 30), none⟩]
def a81_r6 : List AOper := [⟨some 31, .ld 2 true (.t 4), none⟩,
  ⟨some 32, .mv (.t 6), none⟩,
  ⟨none, .st 2 (.t 2) (.t 31), none⟩,
  ⟨some 3, .mv (.t 32), none⟩]
def a81 : AFn := ⟨[false], .seq (.reg a81_r0 false []) (.seq (.reg a81_r1 false []) (.seq (.reg a81_r2 false []) (.seq (.reg a81_r3 false []) (.seq (.seq (.reg a81_r4 false []) (.cond (.t 23) (.reg a81_r5 false []) (.skip))) (.seq (.reg a81_r6 false []) (.ret)))))), [.cell 2 2 true, .t 3], []⟩
theorem reads81 : readFn Try.prog Try.f81 [false] [] [] = some a81 := by kernel_rfl
-- impl.copyDisk
def a82_r0 : List AOper := [⟨some 1, .box (.t 0), none⟩,
  ⟨some 2, .new [.emp, .emp], none⟩]
def a82_r1 : List AOper := [⟨some 3, .fa 0 (.t 1), none⟩,
  ⟨some 4, .ld 1 false (.t 3), none⟩,
  ⟨some 5, .call (.c (.clo 132 [])) [.t 4], none⟩,
  ⟨some 6, .fa 1 (.t 1), none⟩,
  ⟨some 7, .ld 1 false (.t 6), none⟩,
  ⟨some 8, .call (.c (.clo 133 [])) [.t 7], none⟩,
  ⟨some 9, .build [.emp, .emp] [(0, 1, .t 5), (1, 1, .t 8)], none⟩,
  ⟨none, .st 2 (.t 2) (.t 9), none⟩]
def a82 : AFn := ⟨[false], .seq (.reg a82_r0 false []) (.seq (.reg a82_r1 true [(2, 4)]) (.ret)), [.cell 2 2 true], []⟩
theorem reads82 : readFn Try.prog Try.f82 [false] [] [] = some a82 := by kernel_rfl
-- (*impl.Disk).write
def a83_r0 : List AOper := [⟨some 3, .box (.t 1), none⟩]
def a83_r1 : List AOper := [⟨some 5, .fa 0 (.t 3), none⟩,
  ⟨some 6, .ld 1 false (.t 5), none⟩,
  ⟨some 7, .bin .sub (.c (.i .i64 (-1))) (.t 6), none⟩,
  ⟨some 4, .mv (.t 7), none⟩]
def a83_r2 : List AOper := [⟨some 9, .fa 0 (.t 3), none⟩,
  ⟨some 10, .ld 1 false (.t 9), none⟩,
  ⟨some 11, .mv (.t 0), none⟩,
  ⟨some 12, .nc (.t 11), none⟩,
  ⟨some 13, .fa 0 (.t 12), none⟩,
  ⟨some 14, .ld 1 false (.t 13), none⟩,
  ⟨some 15, .len false (.t 14), none⟩,
  ⟨some 16, .bin .sub (.t 15) (.c (.i .i64 1)), none⟩,
  ⟨some 17, .call (.c (.clo 118 [])) [.t 10, .c (.i .i64 0), .t 16], none⟩,
  ⟨some 8, .mv (.t 17), none⟩]
def a83_r3 : List AOper := [⟨some 18, .mv (.t 0), none⟩,
  ⟨some 19, .nc (.t 18), none⟩,
  ⟨some 20, .fa 0 (.t 19), none⟩,
  ⟨some 21, .ld 1 false (.t 20), none⟩,
  ⟨some 22, .fa 0 (.t 3), none⟩,
  ⟨some 23, .ld 1 false (.t 22), none⟩,
  ⟨some 24, .fa 1 (.t 3), none⟩,
  ⟨some 25, .ld 1 false (.t 24), none⟩,
  ⟨some 26, .ia 1 (.t 21) (.t 23), none⟩,
  ⟨none, .st 1 (.t 26) (.t 25), none⟩]
def a83_r4 : List AOper := [⟨some 28, .fa 0 (.t 3), none⟩,
  ⟨some 29, .ld 1 false (.t 28), none⟩,
  ⟨some 30, .bin .eql (.t 29) (.c (.i .i64 (-1))), none⟩,
  ⟨some 31, .mv (.t 30), none⟩,
  ⟨some 32, .fa 0 (.t 3), some (31, false)⟩,
  ⟨some 33, .ld 1 false (.t 32), some (31, false)⟩,
  ⟨some 34, .bin .eql (.t 33) (.c (.i .i64 (-2))), some (31, false)⟩,
  ⟨some 35, .pick (.t 31) (.c (.b true)) (.t 34), none⟩,
  ⟨some 36, .mv (.t 35), none⟩,
  ⟨some 37, .mv (.t 4), some (36, true)⟩,
  ⟨some 38, .mv (.t 0), some (36, true)⟩,
  ⟨some 39, .nc (.t 38), some (36, true)⟩,
  ⟨some 40, .fa 1 (.t 39), some (36, true)⟩,
  ⟨some 41, .ld 1 false (.t 40), some (36, true)⟩,
  ⟨some 42, .len false (.t 41), some (36, true)⟩,
  ⟨some 43, .bin .lss (.t 37) (.t 42), some (36, true)⟩,
  ⟨some 44, .pick (.t 36) (.t 43) (.c (.b false)), none⟩,
  ⟨some 27, .mv (.t 44), none⟩]
def a83_r5 : List AOper := [⟨some 45, .mv (.t 0), none⟩,
  ⟨some 46, .nc (.t 45), none⟩,
  ⟨some 47, .fa 1 (.t 46), none⟩,
  ⟨some 48, .ld 1 false (.t 47), none⟩,
  ⟨some 49, .mv (.t 4), none⟩,
  ⟨some 50, .fa 2 (.t 3), none⟩,
  ⟨some 51, .ld 2 true (.t 50), none⟩,
  ⟨some 52, .ia 2 (.t 48) (.t 49), none⟩,
  ⟨none, .st 2 (.t 52) (.t 51), none⟩]
def a83 : AFn := ⟨[true, false], .seq (.reg a83_r0 false []) (.seq (.reg a83_r1 false []) (.block 0 (.seq (.reg a83_r2 true []) (.cond (.t 8) (.reg a83_r3 true []) (.seq (.reg a83_r4 false []) (.cond (.t 27) (.reg a83_r5 true []) (.skip))))))), [], []⟩
theorem reads83 : readFn Try.prog Try.f83 [true, false] [] [] = some a83 := by kernel_rfl
-- spec.l6Copy
def a84_r0 : List AOper := [⟨some 1, .box (.t 0), none⟩,
  ⟨some 2, .new [.emp, .emp], none⟩]
def a84_r1 : List AOper := [⟨some 3, .rowOf 1 [.s ByteArray.empty] 0 [], none⟩,
  ⟨some 4, .fa 0 (.t 1), none⟩,
  ⟨some 5, .ld 1 false (.t 4), none⟩,
  ⟨some 6, .ap 1 16 (.t 3) (.t 5), none⟩,
  ⟨some 7, .rowOf 2 [.i .i64 0, .i .i64 0] 0 [], none⟩,
  ⟨some 8, .fa 1 (.t 1), none⟩,
  ⟨some 9, .ld 1 false (.t 8), none⟩,
  ⟨some 10, .ap 2 16 (.t 7) (.t 9), none⟩,
  ⟨some 11, .build [.emp, .emp] [(0, 1, .t 6), (1, 1, .t 10)], none⟩,
  ⟨none, .st 2 (.t 2) (.t 11), none⟩]
def a84 : AFn := ⟨[false], .seq (.reg a84_r0 false []) (.seq (.reg a84_r1 true [(0, 2), (0, 4), (2, 4), (3, 4), (0, 6), (3, 6), (4, 6)]) (.ret)), [.cell 2 2 true], []⟩
theorem reads84 : readFn Try.prog Try.f84 [false] [] [] = some a84 := by kernel_rfl
-- spec.l1In
def a85_r0 : List AOper := [⟨some 6, .mv (.c (.b false)), none⟩]
def a85_r1 : List AOper := [⟨some 7, .mv (.t 0), none⟩,
  ⟨some 8, .mv (.t 1), none⟩,
  ⟨some 9, .bin .geq (.t 7) (.t 8), none⟩,
  ⟨some 10, .mv (.t 9), none⟩,
  ⟨some 11, .mv (.t 0), some (10, true)⟩,
  ⟨some 12, .mv (.t 2), some (10, true)⟩,
  ⟨some 13, .bin .leq (.t 11) (.t 12), some (10, true)⟩,
  ⟨some 14, .pick (.t 10) (.t 13) (.c (.b false)), none⟩,
  ⟨some 6, .mv (.t 14), none⟩]
def a85 : AFn := ⟨[false, false, false], .seq (.reg a85_r0 false []) (.seq (.reg a85_r1 false []) (.ret)), [.t 6], []⟩
theorem reads85 : readFn Try.prog Try.f85 [false, false, false] [] [] = some a85 := by kernel_rfl
-- spec.l1Once
def a86_r0 : List AOper := [⟨some 4, .mv (.c (.b false)), none⟩]
def a86_r1 : List AOper := [⟨some 5, .mv (.t 0), none⟩,
  ⟨some 6, .mv (.t 1), none⟩,
  ⟨some 7, .call (.c (.clo 77 [])) [.t 5, .t 6], none⟩,
  ⟨some 8, .bin .eql (.t 7) (.c (.i .i64 0)), none⟩,
  ⟨some 4, .mv (.t 8), none⟩]
def a86 : AFn := ⟨[true, false], .seq (.reg a86_r0 false []) (.seq (.reg a86_r1 false []) (.ret)), [.t 4], []⟩
theorem reads86 : readFn Try.prog Try.f86 [true, false] [] [] = some a86 := by kernel_rfl
-- spec.l5Num
def a87_r0 : List AOper := [⟨some 2, .mv (.c (.i .i64 0)), none⟩]
def a87_r1 : List AOper := [⟨some 7, .mv (.t 0), none⟩,
  ⟨some 8, .nc (.t 7), none⟩,
  ⟨some 9, .fa 0 (.t 8), none⟩,
  ⟨some 10, .ld 1 false (.t 9), none⟩,
  ⟨some 11, .mv (.t 0), none⟩,
  ⟨some 12, .nc (.t 11), none⟩,
  ⟨some 13, .fa 1 (.t 12), none⟩,
  ⟨some 14, .ld 1 false (.t 13), none⟩,
  ⟨some 15, .call (.c (.clo 134 [])) [.t 10, .t 14], none⟩,
  ⟨some 6, .mv (.t 15), none⟩,
  ⟨some 16, .ex (.t 6) 0, none⟩,
  ⟨some 17, .ex (.t 6) 1, none⟩,
  ⟨some 18, .ex (.t 6) 2, none⟩,
  ⟨some 3, .mv (.t 16), none⟩,
  ⟨some 4, .mv (.t 17), none⟩,
  ⟨some 5, .mv (.t 18), none⟩]
def a87_r2 : List AOper := [⟨some 19, .mv (.t 5), none⟩,
  ⟨some 20, .un .not (.t 19), none⟩,
  ⟨some 21, .mv (.t 20), none⟩,
  ⟨some 22, .mv (.t 0), some (21, false)⟩,
  ⟨some 23, .nc (.t 22), some (21, false)⟩,
  ⟨some 24, .fa 2 (.t 23), some (21, false)⟩,
  ⟨some 25, .ld 1 false (.t 24), some (21, false)⟩,
  ⟨some 26, .un .not (.t 25), some (21, false)⟩,
  ⟨some 27, .pick (.t 21) (.c (.b true)) (.t 26), none⟩]
def a87_r3 : List AOper := [⟨some 28, .mv (.t 0), none⟩,
  ⟨some 29, .nc (.t 28), none⟩,
  ⟨some 30, .fa 2 (.t 29), none⟩,
  ⟨none, .st 1 (.t 30) (.c (.b false)), none⟩]
def a87_r4 : List AOper := [⟨some 2, .mv (.c (.i .i64 0)), none⟩]
def a87_r5 : List AOper := [⟨some 31, .mv (.t 0), none⟩,
  ⟨some 32, .mv (.t 4), none⟩,
  ⟨some 33, .nc (.t 31), none⟩,
  ⟨some 34, .fa 1 (.t 33), none⟩,
  ⟨none, .st 1 (.t 34) (.t 32), none⟩]
def a87_r6 : List AOper := [⟨some 35, .mv (.t 3), none⟩,
  ⟨some 2, .mv (.t 35), none⟩]
def a87 : AFn := ⟨[true], .seq (.reg a87_r0 false []) (.seq (.reg a87_r1 true []) (.seq (.seq (.reg a87_r2 false []) (.cond (.t 27) (.seq (.reg a87_r3 false []) (.seq (.reg a87_r4 false []) (.ret))) (.skip))) (.seq (.reg a87_r5 false []) (.seq (.reg a87_r6 false []) (.ret))))), [.t 2], []⟩
theorem reads87 : readFn Try.prog Try.f87 [true] [] [] = some a87 := by kernel_rfl
-- spec.PutNode
def a88_r0 : List AOper := [⟨some 2, .box (.t 0), none⟩,
  ⟨some 4, .mv (.c (.emp)), none⟩,
  ⟨some 5, .mv (.c (.b false)), none⟩]
def a88_r1 : List AOper := [⟨some 6, .fa 0 (.t 2), none⟩,
  ⟨some 7, .ld 1 false (.t 6), none⟩,
  ⟨some 8, .mv (.t 7), none⟩,
  ⟨some 9, .mv (.t 1), some (8, true)⟩,
  ⟨some 10, .len false (.t 9), some (8, true)⟩,
  ⟨some 11, .bin .gtr (.t 10) (.c (.i .i64 0)), some (8, true)⟩,
  ⟨some 12, .mv (.t 11), some (8, true)⟩,
  ⟨some 13, .fa 3 (.t 2), some (12, false)⟩,
  ⟨some 14, .ld 1 false (.t 13), some (12, false)⟩,
  ⟨some 15, .len false (.t 14), some (12, false)⟩,
  ⟨some 16, .fa 2 (.t 2), some (12, false)⟩,
  ⟨some 17, .ld 1 false (.t 16), some (12, false)⟩,
  ⟨some 18, .len false (.t 17), some (12, false)⟩,
  ⟨some 19, .bin .add (.t 15) (.t 18), some (12, false)⟩,
  ⟨some 20, .fa 4 (.t 2), some (12, false)⟩,
  ⟨some 21, .ld 1 false (.t 20), some (12, false)⟩,
  ⟨some 22, .len false (.t 21), some (12, false)⟩,
  ⟨some 23, .bin .add (.t 19) (.t 22), some (12, false)⟩,
  ⟨some 24, .bin .gtr (.t 23) (.c (.i .i64 0)), some (12, false)⟩,
  ⟨some 25, .pick (.t 12) (.c (.b true)) (.t 24), some (8, true)⟩,
  ⟨some 26, .mv (.t 25), some (8, true)⟩,
  ⟨some 27, .fa 1 (.t 2), some (26, false)⟩,
  ⟨some 28, .ld 1 false (.t 27), some (26, false)⟩,
  ⟨some 29, .len false (.t 28), some (26, false)⟩,
  ⟨some 30, .bin .gtr (.t 29) (.c (.i .i64 4)), some (26, false)⟩,
  ⟨some 31, .pick (.t 26) (.c (.b true)) (.t 30), some (8, true)⟩,
  ⟨some 32, .pick (.t 8) (.t 31) (.c (.b false)), none⟩]
def a88_r2 : List AOper := [⟨some 33, .rowOf 1 [.i .u8 0] 0 [], none⟩,
  ⟨some 4, .mv (.t 33), none⟩,
  ⟨some 5, .mv (.c (.b false)), none⟩]
def a88_r3 : List AOper := [⟨some 34, .fa 0 (.t 2), none⟩,
  ⟨some 35, .ld 1 false (.t 34), none⟩,
  ⟨some 36, .un .not (.t 35), none⟩,
  ⟨some 37, .mv (.t 36), none⟩,
  ⟨some 38, .mv (.t 1), some (37, true)⟩,
  ⟨some 39, .len false (.t 38), some (37, true)⟩,
  ⟨some 40, .fa 3 (.t 2), some (37, true)⟩,
  ⟨some 41, .ld 1 false (.t 40), some (37, true)⟩,
  ⟨some 42, .len false (.t 41), some (37, true)⟩,
  ⟨some 43, .bin .neq (.t 39) (.t 42), some (37, true)⟩,
  ⟨some 44, .mv (.t 43), some (37, true)⟩,
  ⟨some 45, .mv (.t 1), some (44, false)⟩,
  ⟨some 46, .len false (.t 45), some (44, false)⟩,
  ⟨some 47, .bin .eql (.t 46) (.c (.i .i64 0)), some (44, false)⟩,
  ⟨some 48, .pick (.t 44) (.c (.b true)) (.t 47), some (37, true)⟩,
  ⟨some 49, .mv (.t 48), some (37, true)⟩,
  ⟨some 50, .mv (.t 1), some (49, false)⟩,
  ⟨some 51, .len false (.t 50), some (49, false)⟩,
  ⟨some 52, .bin .gtr (.t 51) (.c (.i .i64 4)), some (49, false)⟩,
  ⟨some 53, .pick (.t 49) (.c (.b true)) (.t 52), some (37, true)⟩,
  ⟨some 54, .mv (.t 53), some (37, true)⟩,
  ⟨some 55, .fa 2 (.t 2), some (54, false)⟩,
  ⟨some 56, .ld 1 false (.t 55), some (54, false)⟩,
  ⟨some 57, .len false (.t 56), some (54, false)⟩,
  ⟨some 58, .mv (.t 1), some (54, false)⟩,
  ⟨some 59, .len false (.t 58), some (54, false)⟩,
  ⟨some 60, .bin .sub (.t 59) (.c (.i .i64 1)), some (54, false)⟩,
  ⟨some 61, .bin .neq (.t 57) (.t 60), some (54, false)⟩,
  ⟨some 62, .pick (.t 54) (.c (.b true)) (.t 61), some (37, true)⟩,
  ⟨some 63, .mv (.t 62), some (37, true)⟩,
  ⟨some 64, .fa 1 (.t 2), some (63, false)⟩,
  ⟨some 65, .ld 1 false (.t 64), some (63, false)⟩,
  ⟨some 66, .len false (.t 65), some (63, false)⟩,
  ⟨some 67, .bin .gtr (.t 66) (.c (.i .i64 0)), some (63, false)⟩,
  ⟨some 68, .pick (.t 63) (.c (.b true)) (.t 67), some (37, true)⟩,
  ⟨some 69, .mv (.t 68), some (37, true)⟩,
  ⟨some 70, .fa 4 (.t 2), some (69, false)⟩,
  ⟨some 71, .ld 1 false (.t 70), some (69, false)⟩,
  ⟨some 72, .len false (.t 71), some (69, false)⟩,
  ⟨some 73, .bin .gtr (.t 72) (.c (.i .i64 6)), some (69, false)⟩,
  ⟨some 74, .pick (.t 69) (.c (.b true)) (.t 73), some (37, true)⟩,
  ⟨some 75, .pick (.t 37) (.t 74) (.c (.b false)), none⟩]
def a88_r4 : List AOper := [⟨some 76, .rowOf 1 [.i .u8 0] 0 [], none⟩,
  ⟨some 4, .mv (.t 76), none⟩,
  ⟨some 5, .mv (.c (.b false)), none⟩]
def a88_r5 : List AOper := [⟨some 77, .ld 5 true (.t 2), none⟩,
  ⟨some 78, .mv (.t 1), none⟩,
  ⟨some 79, .call (.c (.clo 136 [])) [.t 77, .t 78], none⟩,
  ⟨some 80, .call (.c (.clo 135 [])) [.t 79], none⟩,
  ⟨some 81, .ex (.t 80) 0, none⟩,
  ⟨some 82, .ex (.t 80) 1, none⟩,
  ⟨some 4, .mv (.t 81), none⟩,
  ⟨some 5, .mv (.t 82), none⟩]
def a88 : AFn := ⟨[false, false], .seq (.reg a88_r0 false []) (.seq (.seq (.reg a88_r1 false []) (.cond (.t 32) (.seq (.reg a88_r2 false []) (.ret)) (.skip))) (.seq (.seq (.reg a88_r3 false []) (.cond (.t 75) (.seq (.reg a88_r4 false []) (.ret)) (.skip))) (.seq (.reg a88_r5 false []) (.ret)))), [.t 4, .t 5], []⟩
theorem reads88 : readFn Try.prog Try.f88 [false, false] [] [] = some a88 := by kernel_rfl
-- spec.l2DrawRight
def a112_r0 : List AOper := [⟨some 4, .new [.b false, .emp, .emp, .emp, .emp], none⟩]
def a112_r1 : List AOper := [⟨some 8, .call (.c (.clo 114 [])) [], none⟩,
  ⟨some 5, .new [.b false, .emp, .emp, .emp, .emp], none⟩,
  ⟨none, .st 5 (.t 5) (.t 8), none⟩]
def a112_r2 : List AOper := [⟨some 9, .mv (.t 0), none⟩,
  ⟨some 10, .mv (.t 1), none⟩,
  ⟨some 11, .call (.c (.clo 145 [])) [.t 10, .c (.i .i64 30), .c (.i .i64 90)], none⟩,
  ⟨some 12, .call (.c (.clo 77 [])) [.t 9, .t 11], none⟩,
  ⟨some 6, .mv (.t 12), none⟩]
def a112_r3 : List AOper := [⟨some 7, .mv (.c (.i .i64 0)), none⟩]
def a112_r4 : List AOper := [⟨some 13, .mv (.t 7), none⟩,
  ⟨some 14, .mv (.t 6), none⟩,
  ⟨some 15, .bin .lss (.t 13) (.t 14), none⟩]
def a112_r6 : List AOper := [⟨some 18, .ld 5 true (.t 5), none⟩,
  ⟨some 19, .mv (.t 0), none⟩,
  ⟨some 20, .call (.c (.clo 147 [])) [.t 19], none⟩,
  ⟨some 21, .call (.c (.clo 146 [])) [.t 18, .t 20], none⟩,
  ⟨none, .st 5 (.t 5) (.t 21), none⟩]
def a112_r5 : List AOper := [⟨some 16, .mv (.t 7), none⟩,
  ⟨some 17, .bin .add (.t 16) (.c (.i .i64 1)), none⟩,
  ⟨some 7, .mv (.t 17), none⟩]
def a112_l1 : ACode := .seq (.seq (.reg a112_r4 false []) (.cond (.t 15) (.skip) (.exit 0))) (.seq (.block 1 (.reg a112_r6 true [(0, 2)])) (.reg a112_r5 false []))
def a112_r7 : List AOper := [⟨some 22, .mv (.t 0), none⟩,
  ⟨some 23, .call (.c (.clo 86 [])) [.t 22, .c (.i .i64 8)], none⟩]
def a112_r8 : List AOper := [⟨some 24, .ld 5 true (.t 5), none⟩,
  ⟨some 25, .call (.c (.clo 148 [])) [.t 24], none⟩,
  ⟨none, .st 5 (.t 5) (.t 25), none⟩]
def a112_r9 : List AOper := [⟨some 26, .ld 5 true (.t 5), none⟩,
  ⟨none, .st 5 (.t 4) (.t 26), none⟩]
def a112 : AFn := ⟨[true, false], .seq (.reg a112_r0 false []) (.seq (.reg a112_r1 false []) (.seq (.reg a112_r2 false []) (.seq (.seq (.reg a112_r3 false []) (.block 0 (.loop [] a112_l1))) (.seq (.seq (.reg a112_r7 false []) (.cond (.t 23) (.reg a112_r8 false []) (.skip))) (.seq (.reg a112_r9 false []) (.ret)))))), [.cell 4 5 true], []⟩
theorem reads112 : readFn Try.prog Try.f112 [true, false] [] [[]] = some a112 := by kernel_rfl
-- spec.l1DrawBad
def a113_r0 : List AOper := [⟨some 2, .new [.i .i64 0, .i .i64 0, .i .i64 0], none⟩]
def a113_r1 : List AOper := [⟨some 4, .mv (.t 0), none⟩,
  ⟨some 5, .call (.c (.clo 147 [])) [.t 4], none⟩,
  ⟨some 3, .new [.i .i64 0, .i .i64 0, .i .i64 0], none⟩,
  ⟨none, .st 3 (.t 3) (.t 5), none⟩]
def a113_r2 : List AOper := [⟨some 6, .mv (.t 0), none⟩,
  ⟨some 7, .call (.c (.clo 77 [])) [.t 6, .c (.i .i64 15)], none⟩]
def a113_r3 : List AOper := [⟨some 9, .bin .eql (.t 7) (.c (.i .i64 0)), none⟩,
  ⟨some 8, .mv (.t 9), none⟩]
def a113_r4 : List AOper := [⟨some 10, .mv (.t 0), none⟩,
  ⟨some 11, .call (.c (.clo 77 [])) [.t 10, .c (.i .i64 7)], none⟩,
  ⟨some 12, .bin .sub (.t 11) (.c (.i .i64 1)), none⟩,
  ⟨some 13, .fa 0 (.t 3), none⟩,
  ⟨none, .st 1 (.t 13) (.t 12), none⟩]
def a113_r5 : List AOper := [⟨some 15, .bin .eql (.t 7) (.c (.i .i64 1)), none⟩,
  ⟨some 14, .mv (.t 15), none⟩]
def a113_r6 : List AOper := [⟨some 16, .mv (.t 0), none⟩,
  ⟨some 17, .rowOf 1 [.i .i64 0] 2 [(0, .c (.i .i64 (-1))), (1, .c (.i .i64 1000))], none⟩,
  ⟨some 18, .call (.c (.clo 116 [])) [.t 16, .t 17], none⟩,
  ⟨some 19, .fa 1 (.t 3), none⟩,
  ⟨none, .st 1 (.t 19) (.t 18), none⟩]
def a113_r7 : List AOper := [⟨some 21, .bin .eql (.t 7) (.c (.i .i64 2)), none⟩,
  ⟨some 20, .mv (.t 21), none⟩]
def a113_r8 : List AOper := [⟨some 22, .mv (.t 0), none⟩,
  ⟨some 23, .rowOf 1 [.i .i64 0] 2 [(0, .c (.i .i64 1000000001)), (1, .c (.i .i64 3))], none⟩,
  ⟨some 24, .call (.c (.clo 116 [])) [.t 22, .t 23], none⟩,
  ⟨some 25, .fa 2 (.t 3), none⟩,
  ⟨none, .st 1 (.t 25) (.t 24), none⟩]
def a113_r9 : List AOper := [⟨some 26, .ld 3 true (.t 3), none⟩,
  ⟨none, .st 3 (.t 2) (.t 26), none⟩]
def a113 : AFn := ⟨[true], .seq (.reg a113_r0 false []) (.seq (.reg a113_r1 false []) (.seq (.seq (.reg a113_r2 false []) (.block 0 (.seq (.reg a113_r3 false []) (.cond (.t 8) (.reg a113_r4 false []) (.seq (.reg a113_r5 false []) (.cond (.t 14) (.reg a113_r6 false []) (.seq (.reg a113_r7 false []) (.cond (.t 20) (.reg a113_r8 false []) (.skip))))))))) (.seq (.reg a113_r9 false []) (.ret)))), [.cell 2 3 true], []⟩
theorem reads113 : readFn Try.prog Try.f113 [true] [] [] = some a113 := by kernel_rfl
-- spec.TreeNew
def a114_r0 : List AOper := [⟨some 0, .new [.b false, .emp, .emp, .emp, .emp], none⟩]
def a114_r1 : List AOper := [⟨some 1, .build [.b false, .emp, .emp, .emp, .emp] [(0, 1, .c (.b true))], none⟩,
  ⟨none, .st 5 (.t 0) (.t 1), none⟩]
def a114 : AFn := ⟨[], .seq (.reg a114_r0 false []) (.seq (.reg a114_r1 false []) (.ret)), [.cell 0 5 true], []⟩
theorem reads114 : readFn Try.prog Try.f114 [] [] [] = some a114 := by kernel_rfl
-- spec.l2Copy
def a115_r0 : List AOper := [⟨some 1, .box (.t 0), none⟩,
  ⟨some 2, .new [.b false, .emp, .emp, .emp, .emp], none⟩]
def a115_r1 : List AOper := [⟨some 5, .fa 0 (.t 1), none⟩,
  ⟨some 6, .ld 1 false (.t 5), none⟩,
  ⟨some 7, .rowOf 2 [.i .i64 0, .i .i64 0] 0 [], none⟩,
  ⟨some 8, .fa 1 (.t 1), none⟩,
  ⟨some 9, .ld 1 false (.t 8), none⟩,
  ⟨some 10, .ap 2 16 (.t 7) (.t 9), none⟩,
  ⟨some 11, .rowOf 1 [.i .i64 0] 0 [], none⟩,
  ⟨some 12, .fa 2 (.t 1), none⟩,
  ⟨some 13, .ld 1 false (.t 12), none⟩,
  ⟨some 14, .ap 1 8 (.t 11) (.t 13), none⟩,
  ⟨some 15, .rowOf 3 [.i .i64 0, .i .i64 0, .i .i64 0] 0 [], none⟩,
  ⟨some 16, .fa 4 (.t 1), none⟩,
  ⟨some 17, .ld 1 false (.t 16), none⟩,
  ⟨some 18, .ap 3 24 (.t 15) (.t 17), none⟩,
  ⟨some 19, .build [.b false, .emp, .emp, .emp, .emp] [(0, 1, .t 6), (1, 1, .t 10), (2, 1, .t 14), (4, 1, .t 18)], none⟩,
  ⟨some 3, .new [.b false, .emp, .emp, .emp, .emp], none⟩,
  ⟨none, .st 5 (.t 3) (.t 19), none⟩]
def a115_r2 : List AOper := [⟨some 4, .mv (.c (.i .i64 0)), none⟩]
def a115_r3 : List AOper := [⟨some 20, .mv (.t 4), none⟩,
  ⟨some 21, .fa 3 (.t 1), none⟩,
  ⟨some 22, .ld 1 false (.t 21), none⟩,
  ⟨some 23, .len false (.t 22), none⟩,
  ⟨some 24, .bin .lss (.t 20) (.t 23), none⟩]
def a115_r5 : List AOper := [⟨some 27, .fa 3 (.t 3), none⟩,
  ⟨some 28, .ld 1 false (.t 27), none⟩,
  ⟨some 29, .fa 3 (.t 1), none⟩,
  ⟨some 30, .ld 1 false (.t 29), none⟩,
  ⟨some 31, .mv (.t 4), none⟩,
  ⟨some 32, .ia 5 (.t 30) (.t 31), none⟩,
  ⟨some 33, .ld 5 true (.t 32), none⟩,
  ⟨some 34, .call (.c (.clo 115 [])) [.t 33], none⟩,
  ⟨some 35, .rowOf 5 [.b false, .emp, .emp, .emp, .emp] 1 [(0, .t 34)], none⟩,
  ⟨some 36, .ap 5 104 (.t 28) (.t 35), none⟩,
  ⟨some 37, .fa 3 (.t 3), none⟩,
  ⟨none, .st 1 (.t 37) (.t 36), none⟩]
def a115_r4 : List AOper := [⟨some 25, .mv (.t 4), none⟩,
  ⟨some 26, .bin .add (.t 25) (.c (.i .i64 1)), none⟩,
  ⟨some 4, .mv (.t 26), none⟩]
def a115_l1 : ACode := .seq (.seq (.reg a115_r3 false []) (.cond (.t 24) (.skip) (.exit 0))) (.seq (.block 1 (.reg a115_r5 true [(1, 7), (1, 8)])) (.reg a115_r4 false []))
def a115_r6 : List AOper := [⟨some 38, .ld 5 true (.t 3), none⟩,
  ⟨none, .st 5 (.t 2) (.t 38), none⟩]
def a115 : AFn := ⟨[false], .seq (.reg a115_r0 false []) (.seq (.reg a115_r1 true [(1, 2), (2, 4), (1, 5), (1, 6), (2, 6), (4, 6), (5, 6), (2, 8), (5, 8), (6, 8), (1, 9), (1, 10), (2, 10), (4, 10), (5, 10), (6, 10), (8, 10), (9, 10), (2, 12), (5, 12), (6, 12), (9, 12), (10, 12), (1, 13), (1, 15), (2, 15), (4, 15), (5, 15), (6, 15), (8, 15), (9, 15), (10, 15), (12, 15), (13, 15)]) (.seq (.seq (.reg a115_r2 false []) (.block 0 (.loop [] a115_l1))) (.seq (.reg a115_r6 false []) (.ret)))), [.cell 2 5 true], []⟩
theorem reads115 : readFn Try.prog Try.f115 [false] [] [[]] = some a115 := by kernel_rfl
-- spec.l1PickInt
def a116_r0 : List AOper := [⟨some 4, .mv (.c (.i .i64 0)), none⟩]
def a116_r1 : List AOper := [⟨some 5, .mv (.t 1), none⟩,
  ⟨some 6, .mv (.t 0), none⟩,
  ⟨some 7, .mv (.t 1), none⟩,
  ⟨some 8, .len false (.t 7), none⟩,
  ⟨some 9, .call (.c (.clo 77 [])) [.t 6, .t 8], none⟩,
  ⟨some 10, .ia 1 (.t 5) (.t 9), none⟩,
  ⟨some 11, .ld 1 false (.t 10), none⟩,
  ⟨some 4, .mv (.t 11), none⟩]
def a116 : AFn := ⟨[true, false], .seq (.reg a116_r0 false []) (.seq (.reg a116_r1 false []) (.ret)), [.t 4], []⟩
theorem reads116 : readFn Try.prog Try.f116 [true, false] [] [] = some a116 := by kernel_rfl
-- impl.within
def a118_r0 : List AOper := [⟨some 6, .mv (.c (.b false)), none⟩]
def a118_r1 : List AOper := [⟨some 7, .mv (.t 0), none⟩,
  ⟨some 8, .mv (.t 1), none⟩,
  ⟨some 9, .bin .geq (.t 7) (.t 8), none⟩,
  ⟨some 10, .mv (.t 9), none⟩,
  ⟨some 11, .mv (.t 0), some (10, true)⟩,
  ⟨some 12, .mv (.t 2), some (10, true)⟩,
  ⟨some 13, .bin .leq (.t 11) (.t 12), some (10, true)⟩,
  ⟨some 14, .pick (.t 10) (.t 13) (.c (.b false)), none⟩,
  ⟨some 6, .mv (.t 14), none⟩]
def a118 : AFn := ⟨[false, false, false], .seq (.reg a118_r0 false []) (.seq (.reg a118_r1 false []) (.ret)), [.t 6], []⟩
theorem reads118 : readFn Try.prog Try.f118 [false, false, false] [] [] = some a118 := by kernel_rfl
-- spec.l2Leaf
def a122_r0 : List AOper := [⟨some 3, .box (.t 0), none⟩,
  ⟨some 6, .mv (.c (.i .i64 0)), none⟩]
def a122_r1 : List AOper := [⟨some 8, .fa 1 (.t 3), none⟩,
  ⟨some 9, .ld 1 false (.t 8), none⟩,
  ⟨some 10, .call (.c (.clo 152 [])) [.t 9], none⟩,
  ⟨some 11, .un .not (.t 10), none⟩,
  ⟨some 12, .mv (.t 11), none⟩,
  ⟨some 13, .fa 1 (.t 3), some (12, false)⟩,
  ⟨some 14, .ld 1 false (.t 13), some (12, false)⟩,
  ⟨some 15, .len false (.t 14), some (12, false)⟩,
  ⟨some 16, .bin .gtr (.t 15) (.c (.i .i64 4)), some (12, false)⟩,
  ⟨some 17, .pick (.t 12) (.c (.b true)) (.t 16), none⟩,
  ⟨some 18, .mv (.t 17), none⟩,
  ⟨some 19, .fa 2 (.t 3), some (18, false)⟩,
  ⟨some 20, .ld 1 false (.t 19), some (18, false)⟩,
  ⟨some 21, .len false (.t 20), some (18, false)⟩,
  ⟨some 22, .fa 3 (.t 3), some (18, false)⟩,
  ⟨some 23, .ld 1 false (.t 22), some (18, false)⟩,
  ⟨some 24, .len false (.t 23), some (18, false)⟩,
  ⟨some 25, .bin .add (.t 21) (.t 24), some (18, false)⟩,
  ⟨some 26, .fa 4 (.t 3), some (18, false)⟩,
  ⟨some 27, .ld 1 false (.t 26), some (18, false)⟩,
  ⟨some 28, .len false (.t 27), some (18, false)⟩,
  ⟨some 29, .bin .add (.t 25) (.t 28), some (18, false)⟩,
  ⟨some 30, .bin .gtr (.t 29) (.c (.i .i64 0)), some (18, false)⟩,
  ⟨some 31, .pick (.t 18) (.c (.b true)) (.t 30), none⟩]
def a122_r2 : List AOper := [⟨some 6, .mv (.c (.i .i64 0)), none⟩]
def a122_r3 : List AOper := [⟨some 7, .mv (.c (.i .i64 0)), none⟩]
def a122_r4 : List AOper := [⟨some 32, .mv (.t 7), none⟩,
  ⟨some 33, .fa 1 (.t 3), none⟩,
  ⟨some 34, .ld 1 false (.t 33), none⟩,
  ⟨some 35, .len false (.t 34), none⟩,
  ⟨some 36, .bin .lss (.t 32) (.t 35), none⟩]
def a122_r6 : List AOper := [⟨some 39, .fa 1 (.t 3), none⟩,
  ⟨some 40, .ld 1 false (.t 39), none⟩,
  ⟨some 41, .mv (.t 7), none⟩,
  ⟨some 42, .ia 2 (.t 40) (.t 41), none⟩,
  ⟨some 43, .fa 0 (.t 42), none⟩,
  ⟨some 44, .ld 1 false (.t 43), none⟩,
  ⟨some 45, .mv (.t 1), none⟩,
  ⟨some 46, .mv (.t 2), none⟩,
  ⟨some 47, .bin .sub (.t 46) (.c (.i .i64 1)), none⟩,
  ⟨some 48, .call (.c (.clo 85 [])) [.t 44, .t 45, .t 47], none⟩,
  ⟨some 49, .un .not (.t 48), none⟩]
def a122_r7 : List AOper := [⟨some 6, .mv (.c (.i .i64 0)), none⟩]
def a122_r5 : List AOper := [⟨some 37, .mv (.t 7), none⟩,
  ⟨some 38, .bin .add (.t 37) (.c (.i .i64 1)), none⟩,
  ⟨some 7, .mv (.t 38), none⟩]
def a122_l1 : ACode := .seq (.seq (.reg a122_r4 false []) (.cond (.t 36) (.skip) (.exit 0))) (.seq (.block 1 (.seq (.reg a122_r6 false []) (.cond (.t 49) (.seq (.reg a122_r7 false []) (.ret)) (.skip)))) (.reg a122_r5 false []))
def a122_r8 : List AOper := [⟨some 6, .mv (.c (.i .i64 1)), none⟩]
def a122 : AFn := ⟨[false, false, false], .seq (.reg a122_r0 false []) (.seq (.seq (.reg a122_r1 false []) (.cond (.t 31) (.seq (.reg a122_r2 false []) (.ret)) (.skip))) (.seq (.seq (.reg a122_r3 false []) (.block 0 (.loop [] a122_l1))) (.seq (.reg a122_r8 false []) (.ret)))), [.t 6], []⟩
theorem reads122 : readFn Try.prog Try.f122 [false, false, false] [] [[]] = some a122 := by kernel_rfl
-- spec.MsgOk
def a123_r0 : List AOper := [⟨some 1, .box (.t 0), none⟩,
  ⟨some 2, .mv (.c (.b false)), none⟩]
def a123_r1 : List AOper := [⟨some 3, .fa 0 (.t 1), none⟩,
  ⟨some 4, .ld 1 false (.t 3), none⟩,
  ⟨some 5, .call (.c (.clo 85 [])) [.t 4, .c (.i .i64 1), .c (.i .i64 4)], none⟩,
  ⟨some 6, .un .not (.t 5), none⟩,
  ⟨some 7, .mv (.t 6), none⟩,
  ⟨some 8, .fa 1 (.t 1), some (7, false)⟩,
  ⟨some 9, .ld 1 false (.t 8), some (7, false)⟩,
  ⟨some 10, .call (.c (.clo 85 [])) [.t 9, .c (.i .i64 0), .c (.i .i64 999)], some (7, false)⟩,
  ⟨some 11, .un .not (.t 10), some (7, false)⟩,
  ⟨some 12, .pick (.t 7) (.c (.b true)) (.t 11), none⟩,
  ⟨some 13, .mv (.t 12), none⟩,
  ⟨some 14, .fa 2 (.t 1), some (13, false)⟩,
  ⟨some 15, .ld 1 false (.t 14), some (13, false)⟩,
  ⟨some 16, .call (.c (.clo 153 [])) [.t 15], some (13, false)⟩,
  ⟨some 17, .un .not (.t 16), some (13, false)⟩,
  ⟨some 18, .pick (.t 13) (.c (.b true)) (.t 17), none⟩]
def a123_r2 : List AOper := [⟨some 2, .mv (.c (.b false)), none⟩]
def a123_r3 : List AOper := [⟨some 19, .fa 2 (.t 1), none⟩,
  ⟨some 20, .ld 1 false (.t 19), none⟩,
  ⟨some 21, .bin .eql (.t 20) (.c (.i .i64 0)), none⟩,
  ⟨some 22, .mv (.t 21), none⟩,
  ⟨some 23, .fa 0 (.t 1), some (22, false)⟩,
  ⟨some 24, .ld 1 false (.t 23), some (22, false)⟩,
  ⟨some 25, .bin .eql (.t 24) (.c (.i .i64 1)), some (22, false)⟩,
  ⟨some 26, .pick (.t 22) (.c (.b true)) (.t 25), none⟩,
  ⟨some 27, .mv (.t 26), none⟩,
  ⟨some 28, .fa 0 (.t 1), some (27, false)⟩,
  ⟨some 29, .ld 1 false (.t 28), some (27, false)⟩,
  ⟨some 30, .bin .eql (.t 29) (.c (.i .i64 3)), some (27, false)⟩,
  ⟨some 31, .pick (.t 27) (.c (.b true)) (.t 30), none⟩,
  ⟨some 2, .mv (.t 31), none⟩]
def a123 : AFn := ⟨[false], .seq (.reg a123_r0 false []) (.seq (.seq (.reg a123_r1 false []) (.cond (.t 18) (.seq (.reg a123_r2 false []) (.ret)) (.skip))) (.seq (.reg a123_r3 false []) (.ret))), [.t 2], []⟩
theorem reads123 : readFn Try.prog Try.f123 [false] [] [] = some a123 := by kernel_rfl
-- spec.MapDo
def a126_r0 : List AOper := [⟨some 3, .box (.t 1), none⟩,
  ⟨some 4, .mv (.c (.emp)), none⟩]
def a126_r1 : List AOper := [⟨some 7, .mv (.t 0), none⟩,
  ⟨some 8, .call (.c (.clo 152 [])) [.t 7], none⟩,
  ⟨some 9, .un .not (.t 8), none⟩,
  ⟨some 10, .mv (.t 9), none⟩,
  ⟨some 11, .ld 3 true (.t 3), some (10, false)⟩,
  ⟨some 12, .call (.c (.clo 123 [])) [.t 11], some (10, false)⟩,
  ⟨some 13, .un .not (.t 12), some (10, false)⟩,
  ⟨some 14, .pick (.t 10) (.c (.b true)) (.t 13), none⟩]
def a126_r2 : List AOper := [⟨some 15, .rowOf 2 [.i .i64 0, .i .i64 0] 0 [], none⟩,
  ⟨some 16, .mv (.t 0), none⟩,
  ⟨some 17, .ap 2 16 (.t 15) (.t 16), none⟩,
  ⟨some 4, .mv (.t 17), none⟩]
def a126_r3 : List AOper := [⟨some 19, .mv (.t 0), none⟩,
  ⟨some 20, .fa 1 (.t 3), none⟩,
  ⟨some 21, .ld 1 false (.t 20), none⟩,
  ⟨some 22, .call (.c (.clo 72 [])) [.t 19, .t 21], none⟩,
  ⟨some 18, .mv (.t 22), none⟩,
  ⟨some 23, .ex (.t 18) 0, none⟩,
  ⟨some 24, .ex (.t 18) 1, none⟩,
  ⟨some 5, .mv (.t 23), none⟩,
  ⟨some 6, .mv (.t 24), none⟩]
def a126_r4 : List AOper := [⟨some 25, .fa 0 (.t 3), none⟩,
  ⟨some 26, .ld 1 false (.t 25), none⟩]
def a126_r5 : List AOper := [⟨some 28, .bin .eql (.t 26) (.c (.i .i64 1)), none⟩,
  ⟨some 27, .mv (.t 28), none⟩]
def a126_r6 : List AOper := [⟨some 29, .mv (.t 0), none⟩,
  ⟨some 30, .fa 1 (.t 3), none⟩,
  ⟨some 31, .ld 1 false (.t 30), none⟩,
  ⟨some 32, .fa 2 (.t 3), none⟩,
  ⟨some 33, .ld 1 false (.t 32), none⟩,
  ⟨some 34, .call (.c (.clo 159 [])) [.t 29, .t 31, .t 33], none⟩,
  ⟨some 4, .mv (.t 34), none⟩]
def a126_r7 : List AOper := [⟨some 36, .bin .eql (.t 26) (.c (.i .i64 2)), none⟩,
  ⟨some 35, .mv (.t 36), none⟩]
def a126_r8 : List AOper := [⟨some 37, .mv (.t 0), none⟩,
  ⟨some 38, .fa 1 (.t 3), none⟩,
  ⟨some 39, .ld 1 false (.t 38), none⟩,
  ⟨some 40, .call (.c (.clo 160 [])) [.t 37, .t 39], none⟩,
  ⟨some 4, .mv (.t 40), none⟩]
def a126_r9 : List AOper := [⟨some 42, .bin .eql (.t 26) (.c (.i .i64 3)), none⟩,
  ⟨some 41, .mv (.t 42), none⟩]
def a126_r10 : List AOper := [⟨some 43, .mv (.t 0), none⟩,
  ⟨some 44, .fa 1 (.t 3), none⟩,
  ⟨some 45, .ld 1 false (.t 44), none⟩,
  ⟨some 46, .mv (.t 5), none⟩,
  ⟨some 47, .fa 2 (.t 3), none⟩,
  ⟨some 48, .ld 1 false (.t 47), none⟩,
  ⟨some 49, .bin .add (.t 46) (.t 48), none⟩,
  ⟨some 50, .call (.c (.clo 161 [])) [.t 49], none⟩,
  ⟨some 51, .call (.c (.clo 159 [])) [.t 43, .t 45, .t 50], none⟩,
  ⟨some 4, .mv (.t 51), none⟩]
def a126_r11 : List AOper := [⟨some 52, .rowOf 2 [.i .i64 0, .i .i64 0] 0 [], none⟩,
  ⟨some 53, .mv (.t 0), none⟩,
  ⟨some 54, .ap 2 16 (.t 52) (.t 53), none⟩,
  ⟨some 4, .mv (.t 54), none⟩]
def a126 : AFn := ⟨[false, false], .seq (.reg a126_r0 false []) (.seq (.seq (.reg a126_r1 false []) (.cond (.t 14) (.seq (.reg a126_r2 false []) (.ret)) (.skip))) (.seq (.reg a126_r3 false []) (.seq (.seq (.reg a126_r4 false []) (.block 0 (.seq (.reg a126_r5 false []) (.cond (.t 27) (.seq (.reg a126_r6 false []) (.ret)) (.seq (.reg a126_r7 false []) (.cond (.t 35) (.seq (.reg a126_r8 false []) (.ret)) (.seq (.reg a126_r9 false []) (.cond (.t 41) (.seq (.reg a126_r10 true [(2, 7)]) (.ret)) (.skip))))))))) (.seq (.reg a126_r11 false []) (.ret))))), [.t 4], []⟩
theorem reads126 : readFn Try.prog Try.f126 [false, false] [] [] = some a126 := by kernel_rfl
-- spec.l1Byte
def a129_r0 : List AOper := [⟨some 2, .mv (.c (.i .i64 0)), none⟩]
def a129_r1 : List AOper := [⟨some 4, .mv (.t 0), none⟩,
  ⟨some 5, .mv (.t 0), none⟩,
  ⟨some 6, .nc (.t 5), none⟩,
  ⟨some 7, .fa 2 (.t 6), none⟩,
  ⟨some 8, .ld 1 false (.t 7), none⟩,
  ⟨some 9, .bin .mul (.t 8) (.c (.i .i64 6364136223846793005)), none⟩,
  ⟨some 10, .bin .add (.t 9) (.c (.i .i64 1442695040888963407)), none⟩,
  ⟨some 11, .nc (.t 4), none⟩,
  ⟨some 12, .fa 2 (.t 11), none⟩,
  ⟨none, .st 1 (.t 12) (.t 10), none⟩]
def a129_r2 : List AOper := [⟨some 13, .mv (.t 0), none⟩,
  ⟨some 14, .nc (.t 13), none⟩,
  ⟨some 15, .fa 2 (.t 14), none⟩,
  ⟨some 16, .ld 1 false (.t 15), none⟩,
  ⟨some 17, .bin .shr (.t 16) (.c (.i .u64 33)), none⟩,
  ⟨some 18, .mv (.t 0), none⟩,
  ⟨some 19, .nc (.t 18), none⟩,
  ⟨some 20, .fa 2 (.t 19), none⟩,
  ⟨some 21, .ld 1 false (.t 20), none⟩,
  ⟨some 22, .bin .shr (.t 21) (.c (.i .u64 45)), none⟩,
  ⟨some 23, .bin .xor (.t 17) (.t 22), none⟩,
  ⟨some 24, .bin .and (.t 23) (.c (.i .i64 255)), none⟩,
  ⟨some 3, .mv (.t 24), none⟩]
def a129_r3 : List AOper := [⟨some 25, .mv (.t 0), none⟩,
  ⟨some 26, .nc (.t 25), none⟩,
  ⟨some 27, .fa 1 (.t 26), none⟩,
  ⟨some 28, .ld 1 false (.t 27), none⟩,
  ⟨some 29, .mv (.t 0), none⟩,
  ⟨some 30, .nc (.t 29), none⟩,
  ⟨some 31, .fa 0 (.t 30), none⟩,
  ⟨some 32, .ld 1 false (.t 31), none⟩,
  ⟨some 33, .len false (.t 32), none⟩,
  ⟨some 34, .bin .lss (.t 28) (.t 33), none⟩]
def a129_r4 : List AOper := [⟨some 35, .mv (.t 3), none⟩,
  ⟨some 36, .mv (.t 0), none⟩,
  ⟨some 37, .nc (.t 36), none⟩,
  ⟨some 38, .fa 0 (.t 37), none⟩,
  ⟨some 39, .ld 1 false (.t 38), none⟩,
  ⟨some 40, .mv (.t 0), none⟩,
  ⟨some 41, .nc (.t 40), none⟩,
  ⟨some 42, .fa 1 (.t 41), none⟩,
  ⟨some 43, .ld 1 false (.t 42), none⟩,
  ⟨some 44, .ia 1 (.t 39) (.t 43), none⟩,
  ⟨some 45, .ld 1 false (.t 44), none⟩,
  ⟨some 46, .cvI .i64 (.t 45), none⟩,
  ⟨some 47, .bin .add (.t 35) (.t 46), none⟩,
  ⟨some 48, .bin .and (.t 47) (.c (.i .i64 255)), none⟩,
  ⟨some 3, .mv (.t 48), none⟩]
def a129_r5 : List AOper := [⟨some 49, .mv (.t 0), none⟩,
  ⟨some 50, .mv (.t 0), none⟩,
  ⟨some 51, .nc (.t 50), none⟩,
  ⟨some 52, .fa 1 (.t 51), none⟩,
  ⟨some 53, .ld 1 false (.t 52), none⟩,
  ⟨some 54, .bin .add (.t 53) (.c (.i .i64 1)), none⟩,
  ⟨some 55, .nc (.t 49), none⟩,
  ⟨some 56, .fa 1 (.t 55), none⟩,
  ⟨none, .st 1 (.t 56) (.t 54), none⟩]
def a129_r6 : List AOper := [⟨some 57, .mv (.t 3), none⟩,
  ⟨some 2, .mv (.t 57), none⟩]
def a129 : AFn := ⟨[true], .seq (.reg a129_r0 false []) (.seq (.reg a129_r1 false []) (.seq (.reg a129_r2 true []) (.seq (.seq (.reg a129_r3 true []) (.cond (.t 34) (.seq (.reg a129_r4 true []) (.reg a129_r5 false [])) (.skip))) (.seq (.reg a129_r6 false []) (.ret))))), [.t 2], []⟩
theorem reads129 : readFn Try.prog Try.f129 [true] [] [] = some a129 := by kernel_rfl
-- spec.DrawPlan
def a130_r0 : List AOper := [⟨some 2, .new [.emp, .emp], none⟩,
  ⟨some 3, .new [.b false, .emp, .emp, .emp, .emp], none⟩]
def a130_r1 : List AOper := [⟨some 6, .mv (.t 0), none⟩,
  ⟨some 7, .call (.c (.clo 59 [])) [.t 6], none⟩,
  ⟨some 4, .mv (.t 7), none⟩]
def a130_r2 : List AOper := [⟨some 8, .mv (.t 4), none⟩,
  ⟨some 9, .mv (.t 0), none⟩,
  ⟨some 10, .call (.c (.clo 162 [])) [.t 8, .t 9], none⟩,
  ⟨some 5, .new [.emp, .emp], none⟩,
  ⟨none, .st 2 (.t 5) (.t 10), none⟩]
def a130_r3 : List AOper := [⟨some 11, .ld 2 true (.t 5), none⟩,
  ⟨some 12, .mv (.t 4), none⟩,
  ⟨some 13, .mv (.t 0), none⟩,
  ⟨some 14, .call (.c (.clo 60 [])) [.t 12, .t 13], none⟩,
  ⟨none, .st 2 (.t 2) (.t 11), none⟩,
  ⟨none, .st 5 (.t 3) (.t 14), none⟩]
def a130 : AFn := ⟨[false], .seq (.reg a130_r0 false []) (.seq (.reg a130_r1 false []) (.seq (.reg a130_r2 false []) (.seq (.reg a130_r3 true [(0, 3)]) (.ret)))), [.cell 2 2 true, .cell 3 5 true], []⟩
theorem reads130 : readFn Try.prog Try.f130 [false] [] [] = some a130 := by kernel_rfl
-- spec.Plan
def a131_r0 : List AOper := [⟨some 2, .box (.t 0), none⟩,
  ⟨some 3, .box (.t 1), none⟩,
  ⟨some 4, .mv (.c (.emp)), none⟩,
  ⟨some 5, .mv (.c (.b false)), none⟩]
def a131_r1 : List AOper := [⟨some 12, .mv (.c .emp), none⟩,
  ⟨some 6, .mv (.t 12), none⟩]
def a131_r2 : List AOper := [⟨some 13, .ld 5 true (.t 3), none⟩,
  ⟨some 14, .call (.c (.clo 18 [])) [.t 13], none⟩,
  ⟨some 15, .un .not (.t 14), none⟩,
  ⟨some 16, .mv (.t 15), none⟩,
  ⟨some 17, .fa 1 (.t 2), some (16, false)⟩,
  ⟨some 18, .ld 1 false (.t 17), some (16, false)⟩,
  ⟨some 19, .len false (.t 18), some (16, false)⟩,
  ⟨some 20, .bin .neq (.t 19) (.c (.i .i64 2)), some (16, false)⟩,
  ⟨some 21, .pick (.t 16) (.c (.b true)) (.t 20), none⟩]
def a131_r3 : List AOper := [⟨some 22, .mv (.t 6), none⟩,
  ⟨some 4, .mv (.t 22), none⟩,
  ⟨some 5, .mv (.c (.b false)), none⟩]
def a131_r4 : List AOper := [⟨some 24, .ld 5 true (.t 3), none⟩,
  ⟨some 25, .ld 2 true (.t 2), none⟩,
  ⟨some 26, .call (.c (.clo 164 [])) [.t 25], none⟩,
  ⟨some 27, .mv (.t 6), none⟩,
  ⟨some 28, .call (.c (.clo 163 [])) [.t 24, .t 26, .t 27], none⟩,
  ⟨some 23, .mv (.t 28), none⟩,
  ⟨some 29, .ex (.t 23) 0, none⟩,
  ⟨some 30, .ex (.t 23) 1, none⟩,
  ⟨some 7, .mv (.t 29), none⟩,
  ⟨some 8, .mv (.t 30), none⟩]
def a131_r5 : List AOper := [⟨some 31, .mv (.t 8), none⟩,
  ⟨some 32, .bin .lss (.t 31) (.c (.i .i64 0)), none⟩]
def a131_r6 : List AOper := [⟨some 33, .mv (.t 6), none⟩,
  ⟨some 4, .mv (.t 33), none⟩,
  ⟨some 5, .mv (.c (.b false)), none⟩]
def a131_r7 : List AOper := [⟨some 34, .fa 1 (.t 2), none⟩,
  ⟨some 35, .ld 1 false (.t 34), none⟩,
  ⟨some 36, .ia 2 (.t 35) (.c (.i .i64 0)), none⟩,
  ⟨some 37, .fa 0 (.t 36), none⟩,
  ⟨some 38, .ld 1 false (.t 37), none⟩,
  ⟨some 39, .fa 1 (.t 2), none⟩,
  ⟨some 40, .ld 1 false (.t 39), none⟩,
  ⟨some 41, .ia 2 (.t 40) (.c (.i .i64 1)), none⟩,
  ⟨some 42, .fa 0 (.t 41), none⟩,
  ⟨some 43, .ld 1 false (.t 42), none⟩,
  ⟨some 9, .mv (.t 38), none⟩,
  ⟨some 10, .mv (.t 43), none⟩]
def a131_r8 : List AOper := [⟨some 44, .mv (.t 9), none⟩,
  ⟨some 45, .mv (.t 10), none⟩,
  ⟨some 46, .call (.c (.clo 165 [])) [.t 44, .t 45], none⟩,
  ⟨some 47, .bin .add (.t 46) (.c (.i .i64 1)), none⟩,
  ⟨some 48, .mv (.t 8), none⟩,
  ⟨some 49, .build [.i .i64 0, .i .i64 0] [(0, 1, .t 47), (1, 1, .t 48)], none⟩,
  ⟨some 50, .build [.i .i64 0, .s ByteArray.empty, .i .i64 0, .i .i64 0] [(0, 1, .c (.i .i64 (-1))), (2, 2, .t 49)], none⟩,
  ⟨some 11, .new [.i .i64 0, .s ByteArray.empty, .i .i64 0, .i .i64 0], none⟩,
  ⟨none, .st 4 (.t 11) (.t 50), none⟩]
def a131_r9 : List AOper := [⟨some 51, .mv (.t 10), none⟩,
  ⟨some 52, .mv (.t 9), none⟩,
  ⟨some 53, .bin .lss (.t 51) (.t 52), none⟩]
def a131_r10 : List AOper := [⟨some 54, .fa 0 (.t 11), none⟩,
  ⟨none, .st 1 (.t 54) (.c (.i .i64 (-2))), none⟩]
def a131_r11 : List AOper := [⟨some 55, .mv (.t 7), none⟩,
  ⟨some 56, .ld 4 true (.t 11), none⟩,
  ⟨some 57, .rowOf 4 [.i .i64 0, .s ByteArray.empty, .i .i64 0, .i .i64 0] 1 [(0, .t 56)], none⟩,
  ⟨some 58, .ap 4 40 (.t 55) (.t 57), none⟩,
  ⟨some 4, .mv (.t 58), none⟩,
  ⟨some 5, .mv (.c (.b true)), none⟩]
def a131 : AFn := ⟨[false, false], .seq (.reg a131_r0 false []) (.seq (.reg a131_r1 false []) (.seq (.seq (.reg a131_r2 false []) (.cond (.t 21) (.seq (.reg a131_r3 false []) (.ret)) (.skip))) (.seq (.reg a131_r4 true [(0, 2)]) (.seq (.seq (.reg a131_r5 false []) (.cond (.t 32) (.seq (.reg a131_r6 false []) (.ret)) (.skip))) (.seq (.reg a131_r7 true []) (.seq (.reg a131_r8 false []) (.seq (.seq (.reg a131_r9 false []) (.cond (.t 53) (.reg a131_r10 false []) (.skip))) (.seq (.reg a131_r11 false []) (.ret))))))))), [.t 4, .t 5], []⟩
theorem reads131 : readFn Try.prog Try.f131 [false, false] [] [] = some a131 := by kernel_rfl
-- slices.Clone[[]string,string]
def a132_r0 : List AOper := [⟨some 2, .mv (.c (.emp)), none⟩]
def a132_r1 : List AOper := [⟨some 3, .mv (.t 0), none⟩,
  ⟨some 4, .eqn false (.t 3), none⟩]
def a132_r2 : List AOper := [⟨some 2, .mv (.c (.emp)), none⟩]
def a132_r3 : List AOper := [⟨some 5, .rowOf 1 [.s ByteArray.empty] 0 [], none⟩,
  ⟨some 6, .mv (.t 0), none⟩,
  ⟨some 7, .ap 1 16 (.t 5) (.t 6), none⟩,
  ⟨some 2, .mv (.t 7), none⟩]
def a132 : AFn := ⟨[false], .seq (.reg a132_r0 false []) (.seq (.seq (.reg a132_r1 false []) (.cond (.t 4) (.seq (.reg a132_r2 false []) (.ret)) (.skip))) (.seq (.reg a132_r3 false []) (.ret))), [.t 2], []⟩
theorem reads132 : readFn Try.prog Try.f132 [false] [] [] = some a132 := by kernel_rfl
-- slices.Clone[[]impl.Super,impl.Super]
def a133_r0 : List AOper := [⟨some 2, .mv (.c (.emp)), none⟩]
def a133_r1 : List AOper := [⟨some 3, .mv (.t 0), none⟩,
  ⟨some 4, .eqn false (.t 3), none⟩]
def a133_r2 : List AOper := [⟨some 2, .mv (.c (.emp)), none⟩]
def a133_r3 : List AOper := [⟨some 5, .rowOf 2 [.i .i64 0, .i .i64 0] 0 [], none⟩,
  ⟨some 6, .mv (.t 0), none⟩,
  ⟨some 7, .ap 2 16 (.t 5) (.t 6), none⟩,
  ⟨some 2, .mv (.t 7), none⟩]
def a133 : AFn := ⟨[false], .seq (.reg a133_r0 false []) (.seq (.seq (.reg a133_r1 false []) (.cond (.t 4) (.seq (.reg a133_r2 false []) (.ret)) (.skip))) (.seq (.reg a133_r3 false []) (.ret))), [.t 2], []⟩
theorem reads133 : readFn Try.prog Try.f133 [false] [] [] = some a133 := by kernel_rfl
-- spec.GetNum
def a134_r0 : List AOper := [⟨some 4, .mv (.c (.i .i64 0)), none⟩,
  ⟨some 5, .mv (.c (.i .i64 0)), none⟩,
  ⟨some 6, .mv (.c (.b false)), none⟩]
def a134_r1 : List AOper := [⟨some 11, .mv (.t 1), none⟩,
  ⟨some 12, .bin .lss (.t 11) (.c (.i .i64 0)), none⟩,
  ⟨some 13, .mv (.t 12), none⟩,
  ⟨some 14, .mv (.t 1), some (13, false)⟩,
  ⟨some 15, .mv (.t 0), some (13, false)⟩,
  ⟨some 16, .len false (.t 15), some (13, false)⟩,
  ⟨some 17, .bin .geq (.t 14) (.t 16), some (13, false)⟩,
  ⟨some 18, .pick (.t 13) (.c (.b true)) (.t 17), none⟩]
def a134_r2 : List AOper := [⟨some 4, .mv (.c (.i .i64 0)), none⟩,
  ⟨some 5, .mv (.c (.i .i64 0)), none⟩,
  ⟨some 6, .mv (.c (.b false)), none⟩]
def a134_r3 : List AOper := [⟨some 7, .mv (.c (.i .i64 0)), none⟩]
def a134_r4 : List AOper := [⟨some 8, .mv (.c (.i .i64 0)), none⟩]
def a134_r5 : List AOper := [⟨some 19, .mv (.t 8), none⟩,
  ⟨some 20, .bin .lss (.t 19) (.c (.i .i64 5)), none⟩,
  ⟨some 21, .mv (.t 20), none⟩,
  ⟨some 22, .mv (.t 1), some (21, true)⟩,
  ⟨some 23, .mv (.t 8), some (21, true)⟩,
  ⟨some 24, .bin .add (.t 22) (.t 23), some (21, true)⟩,
  ⟨some 25, .mv (.t 0), some (21, true)⟩,
  ⟨some 26, .len false (.t 25), some (21, true)⟩,
  ⟨some 27, .bin .lss (.t 24) (.t 26), some (21, true)⟩,
  ⟨some 28, .pick (.t 21) (.t 27) (.c (.b false)), none⟩]
def a134_r7 : List AOper := [⟨some 31, .mv (.t 0), none⟩,
  ⟨some 32, .mv (.t 1), none⟩,
  ⟨some 33, .mv (.t 8), none⟩,
  ⟨some 34, .bin .add (.t 32) (.t 33), none⟩,
  ⟨some 35, .ia 1 (.t 31) (.t 34), none⟩,
  ⟨some 36, .ld 1 false (.t 35), none⟩,
  ⟨some 37, .cvI .i64 (.t 36), none⟩,
  ⟨some 9, .mv (.t 37), none⟩]
def a134_r8 : List AOper := [⟨some 38, .mv (.t 7), none⟩,
  ⟨some 39, .mv (.t 9), none⟩,
  ⟨some 40, .bin .rem (.t 39) (.c (.i .i64 128)), none⟩,
  ⟨some 41, .mv (.t 8), none⟩,
  ⟨some 42, .bin .mul (.c (.i .i64 7)) (.t 41), none⟩,
  ⟨some 43, .bin .shl (.t 40) (.t 42), none⟩,
  ⟨some 44, .bin .or (.t 38) (.t 43), none⟩,
  ⟨some 7, .mv (.t 44), none⟩]
def a134_r9 : List AOper := [⟨some 45, .mv (.t 9), none⟩,
  ⟨some 46, .bin .geq (.t 45) (.c (.i .i64 128)), none⟩]
def a134_r10 : List AOper := [⟨some 47, .mv (.t 7), none⟩,
  ⟨some 48, .bin .quo (.t 47) (.c (.i .i64 2)), none⟩,
  ⟨some 10, .mv (.t 48), none⟩]
def a134_r11 : List AOper := [⟨some 49, .mv (.t 7), none⟩,
  ⟨some 50, .bin .rem (.t 49) (.c (.i .i64 2)), none⟩,
  ⟨some 51, .bin .eql (.t 50) (.c (.i .i64 1)), none⟩]
def a134_r12 : List AOper := [⟨some 52, .mv (.t 7), none⟩,
  ⟨some 53, .bin .quo (.t 52) (.c (.i .i64 2)), none⟩,
  ⟨some 54, .bin .sub (.c (.i .i64 0)) (.t 53), none⟩,
  ⟨some 55, .bin .sub (.t 54) (.c (.i .i64 1)), none⟩,
  ⟨some 10, .mv (.t 55), none⟩]
def a134_r13 : List AOper := [⟨some 56, .mv (.t 9), none⟩,
  ⟨some 57, .bin .eql (.t 56) (.c (.i .i64 0)), none⟩,
  ⟨some 58, .mv (.t 57), none⟩,
  ⟨some 59, .mv (.t 8), some (58, true)⟩,
  ⟨some 60, .bin .gtr (.t 59) (.c (.i .i64 0)), some (58, true)⟩,
  ⟨some 61, .pick (.t 58) (.t 60) (.c (.b false)), none⟩,
  ⟨some 62, .mv (.t 61), none⟩,
  ⟨some 63, .mv (.t 10), some (62, false)⟩,
  ⟨some 64, .call (.c (.clo 166 [])) [.t 63], some (62, false)⟩,
  ⟨some 65, .len false (.t 64), some (62, false)⟩,
  ⟨some 66, .bin .eql (.t 65) (.c (.i .i64 0)), some (62, false)⟩,
  ⟨some 67, .pick (.t 62) (.c (.b true)) (.t 66), none⟩]
def a134_r14 : List AOper := [⟨some 4, .mv (.c (.i .i64 0)), none⟩,
  ⟨some 5, .mv (.c (.i .i64 0)), none⟩,
  ⟨some 6, .mv (.c (.b false)), none⟩]
def a134_r15 : List AOper := [⟨some 68, .mv (.t 10), none⟩,
  ⟨some 69, .mv (.t 1), none⟩,
  ⟨some 70, .mv (.t 8), none⟩,
  ⟨some 71, .bin .add (.t 69) (.t 70), none⟩,
  ⟨some 72, .bin .add (.t 71) (.c (.i .i64 1)), none⟩,
  ⟨some 4, .mv (.t 68), none⟩,
  ⟨some 5, .mv (.t 72), none⟩,
  ⟨some 6, .mv (.c (.b true)), none⟩]
def a134_r6 : List AOper := [⟨some 29, .mv (.t 8), none⟩,
  ⟨some 30, .bin .add (.t 29) (.c (.i .i64 1)), none⟩,
  ⟨some 8, .mv (.t 30), none⟩]
def a134_l1 : ACode := .seq (.seq (.reg a134_r5 false []) (.cond (.t 28) (.skip) (.exit 0))) (.seq (.block 1 (.seq (.reg a134_r7 false []) (.seq (.reg a134_r8 false []) (.seq (.seq (.reg a134_r9 false []) (.cond (.t 46) (.exit 1) (.skip))) (.seq (.reg a134_r10 false []) (.seq (.seq (.reg a134_r11 false []) (.cond (.t 51) (.reg a134_r12 false []) (.skip))) (.seq (.seq (.reg a134_r13 false []) (.cond (.t 67) (.seq (.reg a134_r14 false []) (.ret)) (.skip))) (.seq (.reg a134_r15 false []) (.ret))))))))) (.reg a134_r6 false []))
def a134_r16 : List AOper := [⟨some 4, .mv (.c (.i .i64 0)), none⟩,
  ⟨some 5, .mv (.c (.i .i64 0)), none⟩,
  ⟨some 6, .mv (.c (.b false)), none⟩]
def a134 : AFn := ⟨[false, false], .seq (.reg a134_r0 false []) (.seq (.seq (.reg a134_r1 false []) (.cond (.t 18) (.seq (.reg a134_r2 false []) (.ret)) (.skip))) (.seq (.reg a134_r3 false []) (.seq (.seq (.reg a134_r4 false []) (.block 0 (.loop [] a134_l1))) (.seq (.reg a134_r16 false []) (.ret))))), [.t 4, .t 5, .t 6], []⟩
theorem reads134 : readFn Try.prog Try.f134 [false, false] [] [[]] = some a134 := by kernel_rfl
-- spec.l5Nums
def a135_r0 : List AOper := [⟨some 2, .mv (.c (.emp)), none⟩,
  ⟨some 3, .mv (.c (.b false)), none⟩]
def a135_r1 : List AOper := [⟨some 7, .rowOf 1 [.i .u8 0] 0 [], none⟩,
  ⟨some 4, .mv (.t 7), none⟩]
def a135_r2 : List AOper := [⟨some 5, .mv (.c (.i .i64 0)), none⟩]
def a135_r3 : List AOper := [⟨some 8, .mv (.t 5), none⟩,
  ⟨some 9, .mv (.t 0), none⟩,
  ⟨some 10, .len false (.t 9), none⟩,
  ⟨some 11, .bin .lss (.t 8) (.t 10), none⟩]
def a135_r5 : List AOper := [⟨some 14, .mv (.t 0), none⟩,
  ⟨some 15, .mv (.t 5), none⟩,
  ⟨some 16, .ia 1 (.t 14) (.t 15), none⟩,
  ⟨some 17, .ld 1 false (.t 16), none⟩,
  ⟨some 18, .call (.c (.clo 166 [])) [.t 17], none⟩,
  ⟨some 6, .mv (.t 18), none⟩]
def a135_r6 : List AOper := [⟨some 19, .mv (.t 6), none⟩,
  ⟨some 20, .len false (.t 19), none⟩,
  ⟨some 21, .bin .eql (.t 20) (.c (.i .i64 0)), none⟩]
def a135_r7 : List AOper := [⟨some 22, .rowOf 1 [.i .u8 0] 0 [], none⟩,
  ⟨some 2, .mv (.t 22), none⟩,
  ⟨some 3, .mv (.c (.b false)), none⟩]
def a135_r8 : List AOper := [⟨some 23, .mv (.t 4), none⟩,
  ⟨some 24, .mv (.t 6), none⟩,
  ⟨some 25, .ap 1 1 (.t 23) (.t 24), none⟩,
  ⟨some 4, .mv (.t 25), none⟩]
def a135_r4 : List AOper := [⟨some 12, .mv (.t 5), none⟩,
  ⟨some 13, .bin .add (.t 12) (.c (.i .i64 1)), none⟩,
  ⟨some 5, .mv (.t 13), none⟩]
def a135_l1 : ACode := .seq (.seq (.reg a135_r3 false []) (.cond (.t 11) (.skip) (.exit 0))) (.seq (.block 1 (.seq (.reg a135_r5 false []) (.seq (.seq (.reg a135_r6 false []) (.cond (.t 21) (.seq (.reg a135_r7 false []) (.ret)) (.skip))) (.reg a135_r8 false [])))) (.reg a135_r4 false []))
def a135_r9 : List AOper := [⟨some 26, .mv (.t 4), none⟩,
  ⟨some 2, .mv (.t 26), none⟩,
  ⟨some 3, .mv (.c (.b true)), none⟩]
def a135 : AFn := ⟨[false], .seq (.reg a135_r0 false []) (.seq (.reg a135_r1 false []) (.seq (.seq (.reg a135_r2 false []) (.block 0 (.loop [] a135_l1))) (.seq (.reg a135_r9 false []) (.ret)))), [.t 2, .t 3], []⟩
theorem reads135 : readFn Try.prog Try.f135 [false] [] [[]] = some a135 := by kernel_rfl
-- spec.l5Node
def a136_r0 : List AOper := [⟨some 2, .box (.t 0), none⟩,
  ⟨some 4, .mv (.c (.emp)), none⟩]
def a136_r1 : List AOper := [⟨some 8, .mv (.t 1), none⟩,
  ⟨some 9, .len false (.t 8), none⟩,
  ⟨some 10, .rowOf 1 [.i .i64 0] 2 [(0, .c (.i .i64 0)), (1, .t 9)], none⟩,
  ⟨some 5, .mv (.t 10), none⟩]
def a136_r2 : List AOper := [⟨some 11, .fa 0 (.t 2), none⟩,
  ⟨some 12, .ld 1 false (.t 11), none⟩]
def a136_r3 : List AOper := [⟨some 13, .fa 1 (.t 2), none⟩,
  ⟨some 14, .ld 1 false (.t 13), none⟩,
  ⟨some 15, .len false (.t 14), none⟩,
  ⟨some 16, .rowOf 1 [.i .i64 0] 2 [(0, .c (.i .i64 1)), (1, .t 15)], none⟩,
  ⟨some 5, .mv (.t 16), none⟩]
def a136_r4 : List AOper := [⟨some 6, .mv (.c (.i .i64 0)), none⟩]
def a136_r5 : List AOper := [⟨some 17, .mv (.t 6), none⟩,
  ⟨some 18, .fa 1 (.t 2), none⟩,
  ⟨some 19, .ld 1 false (.t 18), none⟩,
  ⟨some 20, .len false (.t 19), none⟩,
  ⟨some 21, .bin .lss (.t 17) (.t 20), none⟩]
def a136_r7 : List AOper := [⟨some 24, .mv (.t 5), none⟩,
  ⟨some 25, .fa 1 (.t 2), none⟩,
  ⟨some 26, .ld 1 false (.t 25), none⟩,
  ⟨some 27, .mv (.t 6), none⟩,
  ⟨some 28, .ia 2 (.t 26) (.t 27), none⟩,
  ⟨some 29, .fa 0 (.t 28), none⟩,
  ⟨some 30, .ld 1 false (.t 29), none⟩,
  ⟨some 31, .fa 1 (.t 2), none⟩,
  ⟨some 32, .ld 1 false (.t 31), none⟩,
  ⟨some 33, .mv (.t 6), none⟩,
  ⟨some 34, .ia 2 (.t 32) (.t 33), none⟩,
  ⟨some 35, .fa 1 (.t 34), none⟩,
  ⟨some 36, .ld 1 false (.t 35), none⟩,
  ⟨some 37, .rowOf 1 [.i .i64 0] 2 [(0, .t 30), (1, .t 36)], none⟩,
  ⟨some 38, .ap 1 8 (.t 24) (.t 37), none⟩,
  ⟨some 5, .mv (.t 38), none⟩]
def a136_r6 : List AOper := [⟨some 22, .mv (.t 6), none⟩,
  ⟨some 23, .bin .add (.t 22) (.c (.i .i64 1)), none⟩,
  ⟨some 6, .mv (.t 23), none⟩]
def a136_l1 : ACode := .seq (.seq (.reg a136_r5 false []) (.cond (.t 21) (.skip) (.exit 0))) (.seq (.block 1 (.reg a136_r7 true [])) (.reg a136_r6 false []))
def a136_r8 : List AOper := [⟨some 39, .mv (.t 5), none⟩,
  ⟨some 4, .mv (.t 39), none⟩]
def a136_r9 : List AOper := [⟨some 40, .mv (.t 5), none⟩,
  ⟨some 41, .mv (.t 1), none⟩,
  ⟨some 42, .ap 1 8 (.t 40) (.t 41), none⟩,
  ⟨some 5, .mv (.t 42), none⟩]
def a136_r10 : List AOper := [⟨some 43, .mv (.t 5), none⟩,
  ⟨some 44, .fa 2 (.t 2), none⟩,
  ⟨some 45, .ld 1 false (.t 44), none⟩,
  ⟨some 46, .ap 1 8 (.t 43) (.t 45), none⟩,
  ⟨some 5, .mv (.t 46), none⟩]
def a136_r11 : List AOper := [⟨some 47, .mv (.t 5), none⟩,
  ⟨some 48, .fa 4 (.t 2), none⟩,
  ⟨some 49, .ld 1 false (.t 48), none⟩,
  ⟨some 50, .len false (.t 49), none⟩,
  ⟨some 51, .rowOf 1 [.i .i64 0] 1 [(0, .t 50)], none⟩,
  ⟨some 52, .ap 1 8 (.t 47) (.t 51), none⟩,
  ⟨some 5, .mv (.t 52), none⟩]
def a136_r12 : List AOper := [⟨some 7, .mv (.c (.i .i64 0)), none⟩]
def a136_r13 : List AOper := [⟨some 53, .mv (.t 7), none⟩,
  ⟨some 54, .fa 4 (.t 2), none⟩,
  ⟨some 55, .ld 1 false (.t 54), none⟩,
  ⟨some 56, .len false (.t 55), none⟩,
  ⟨some 57, .bin .lss (.t 53) (.t 56), none⟩]
def a136_r15 : List AOper := [⟨some 60, .mv (.t 5), none⟩,
  ⟨some 61, .fa 4 (.t 2), none⟩,
  ⟨some 62, .ld 1 false (.t 61), none⟩,
  ⟨some 63, .mv (.t 7), none⟩,
  ⟨some 64, .ia 3 (.t 62) (.t 63), none⟩,
  ⟨some 65, .fa 0 (.t 64), none⟩,
  ⟨some 66, .ld 1 false (.t 65), none⟩,
  ⟨some 67, .fa 4 (.t 2), none⟩,
  ⟨some 68, .ld 1 false (.t 67), none⟩,
  ⟨some 69, .mv (.t 7), none⟩,
  ⟨some 70, .ia 3 (.t 68) (.t 69), none⟩,
  ⟨some 71, .fa 1 (.t 70), none⟩,
  ⟨some 72, .ld 1 false (.t 71), none⟩,
  ⟨some 73, .fa 4 (.t 2), none⟩,
  ⟨some 74, .ld 1 false (.t 73), none⟩,
  ⟨some 75, .mv (.t 7), none⟩,
  ⟨some 76, .ia 3 (.t 74) (.t 75), none⟩,
  ⟨some 77, .fa 2 (.t 76), none⟩,
  ⟨some 78, .ld 1 false (.t 77), none⟩,
  ⟨some 79, .rowOf 1 [.i .i64 0] 3 [(0, .t 66), (1, .t 72), (2, .t 78)], none⟩,
  ⟨some 80, .ap 1 8 (.t 60) (.t 79), none⟩,
  ⟨some 5, .mv (.t 80), none⟩]
def a136_r14 : List AOper := [⟨some 58, .mv (.t 7), none⟩,
  ⟨some 59, .bin .add (.t 58) (.c (.i .i64 1)), none⟩,
  ⟨some 7, .mv (.t 59), none⟩]
def a136_l2 : ACode := .seq (.seq (.reg a136_r13 false []) (.cond (.t 57) (.skip) (.exit 2))) (.seq (.block 3 (.reg a136_r15 true [])) (.reg a136_r14 false []))
def a136_r16 : List AOper := [⟨some 81, .mv (.t 5), none⟩,
  ⟨some 4, .mv (.t 81), none⟩]
def a136 : AFn := ⟨[false, false], .seq (.reg a136_r0 false []) (.seq (.reg a136_r1 false []) (.seq (.seq (.reg a136_r2 false []) (.cond (.t 12) (.seq (.reg a136_r3 false []) (.seq (.seq (.reg a136_r4 false []) (.block 0 (.loop [] a136_l1))) (.seq (.reg a136_r8 false []) (.ret)))) (.skip))) (.seq (.reg a136_r9 false []) (.seq (.reg a136_r10 false []) (.seq (.reg a136_r11 false []) (.seq (.seq (.reg a136_r12 false []) (.block 2 (.loop [] a136_l2))) (.seq (.reg a136_r16 false []) (.ret)))))))), [.t 4], []⟩
theorem reads136 : readFn Try.prog Try.f136 [false, false] [] [[], []] = some a136 := by kernel_rfl
-- spec.l1Long
def a145_r0 : List AOper := [⟨some 6, .mv (.c (.i .i64 0)), none⟩]
def a145_r1 : List AOper := [⟨some 8, .mv (.t 1), none⟩,
  ⟨some 9, .mv (.t 0), none⟩,
  ⟨some 10, .len false (.t 9), none⟩,
  ⟨some 11, .bin .quo (.t 10) (.c (.i .i64 4)), none⟩,
  ⟨some 12, .bin .add (.t 8) (.t 11), none⟩,
  ⟨some 7, .mv (.t 12), none⟩]
def a145_r2 : List AOper := [⟨some 13, .mv (.t 7), none⟩,
  ⟨some 14, .mv (.t 2), none⟩,
  ⟨some 15, .bin .gtr (.t 13) (.t 14), none⟩]
def a145_r3 : List AOper := [⟨some 16, .mv (.t 2), none⟩,
  ⟨some 6, .mv (.t 16), none⟩]
def a145_r4 : List AOper := [⟨some 17, .mv (.t 7), none⟩,
  ⟨some 6, .mv (.t 17), none⟩]
def a145 : AFn := ⟨[false, false, false], .seq (.reg a145_r0 false []) (.seq (.reg a145_r1 false []) (.seq (.seq (.reg a145_r2 false []) (.cond (.t 15) (.seq (.reg a145_r3 false []) (.ret)) (.skip))) (.seq (.reg a145_r4 false []) (.ret)))), [.t 6], []⟩
theorem reads145 : readFn Try.prog Try.f145 [false, false, false] [] [] = some a145 := by kernel_rfl
-- spec.Inject
def a146_r0 : List AOper := [⟨some 2, .box (.t 0), none⟩,
  ⟨some 3, .box (.t 1), none⟩,
  ⟨some 4, .new [.b false, .emp, .emp, .emp, .emp], none⟩]
def a146_r1 : List AOper := [⟨some 6, .ld 5 true (.t 2), none⟩,
  ⟨some 7, .call (.c (.clo 18 [])) [.t 6], none⟩,
  ⟨some 8, .un .not (.t 7), none⟩,
  ⟨some 9, .mv (.t 8), none⟩,
  ⟨some 10, .ld 3 true (.t 3), some (9, false)⟩,
  ⟨some 11, .call (.c (.clo 123 [])) [.t 10], some (9, false)⟩,
  ⟨some 12, .un .not (.t 11), some (9, false)⟩,
  ⟨some 13, .pick (.t 9) (.c (.b true)) (.t 12), none⟩,
  ⟨some 14, .mv (.t 13), none⟩,
  ⟨some 15, .fa 0 (.t 3), some (14, false)⟩,
  ⟨some 16, .ld 1 false (.t 15), some (14, false)⟩,
  ⟨some 17, .bin .eql (.t 16) (.c (.i .i64 4)), some (14, false)⟩,
  ⟨some 18, .pick (.t 14) (.c (.b true)) (.t 17), none⟩]
def a146_r2 : List AOper := [⟨some 19, .ld 5 true (.t 2), none⟩,
  ⟨some 20, .call (.c (.clo 115 [])) [.t 19], none⟩,
  ⟨none, .st 5 (.t 4) (.t 20), none⟩]
def a146_r3 : List AOper := [⟨some 21, .ld 5 true (.t 2), none⟩,
  ⟨some 22, .call (.c (.clo 115 [])) [.t 21], none⟩,
  ⟨some 23, .ld 3 true (.t 3), none⟩,
  ⟨some 24, .rowOf 3 [.i .i64 0, .i .i64 0, .i .i64 0] 1 [(0, .t 23)], none⟩,
  ⟨some 25, .call (.c (.clo 170 [])) [.t 22, .t 24], none⟩,
  ⟨some 26, .call (.c (.clo 169 [])) [.t 25], none⟩,
  ⟨some 5, .new [.b false, .emp, .emp, .emp, .emp], none⟩,
  ⟨none, .st 5 (.t 5) (.t 26), none⟩]
def a146_r4 : List AOper := [⟨some 27, .ld 5 true (.t 5), none⟩,
  ⟨some 28, .call (.c (.clo 18 [])) [.t 27], none⟩,
  ⟨some 29, .un .not (.t 28), none⟩]
def a146_r5 : List AOper := [⟨some 30, .ld 5 true (.t 2), none⟩,
  ⟨some 31, .call (.c (.clo 115 [])) [.t 30], none⟩,
  ⟨none, .st 5 (.t 4) (.t 31), none⟩]
def a146_r6 : List AOper := [⟨some 32, .ld 5 true (.t 5), none⟩,
  ⟨some 33, .call (.c (.clo 115 [])) [.t 32], none⟩,
  ⟨none, .st 5 (.t 4) (.t 33), none⟩]
def a146 : AFn := ⟨[false, false], .seq (.reg a146_r0 false []) (.seq (.seq (.reg a146_r1 false []) (.cond (.t 18) (.seq (.reg a146_r2 false []) (.ret)) (.skip))) (.seq (.reg a146_r3 true [(1, 2), (0, 3), (1, 3), (0, 6), (1, 6), (2, 6), (3, 6), (4, 6), (5, 6)]) (.seq (.seq (.reg a146_r4 false []) (.cond (.t 29) (.seq (.reg a146_r5 false []) (.ret)) (.skip))) (.seq (.reg a146_r6 false []) (.ret))))), [.cell 4 5 true], []⟩
theorem reads146 : readFn Try.prog Try.f146 [false, false] [] [] = some a146 := by kernel_rfl
-- spec.l1DrawMsg
def a147_r0 : List AOper := [⟨some 2, .new [.i .i64 0, .i .i64 0, .i .i64 0], none⟩]
def a147_r1 : List AOper := [⟨some 4, .mv (.t 0), none⟩,
  ⟨some 5, .rowOf 1 [.i .i64 0] 7 [(0, .c (.i .i64 1)), (1, .c (.i .i64 1)), (2, .c (.i .i64 1)), (3, .c (.i .i64 2)), (4, .c (.i .i64 3)), (5, .c (.i .i64 3)), (6, .c (.i .i64 4))], none⟩,
  ⟨some 6, .call (.c (.clo 116 [])) [.t 4, .t 5], none⟩,
  ⟨some 7, .mv (.t 0), none⟩,
  ⟨some 8, .call (.c (.clo 61 [])) [.t 7], none⟩,
  ⟨some 9, .build [.i .i64 0, .i .i64 0, .i .i64 0] [(0, 1, .t 6), (1, 1, .t 8)], none⟩,
  ⟨some 3, .new [.i .i64 0, .i .i64 0, .i .i64 0], none⟩,
  ⟨none, .st 3 (.t 3) (.t 9), none⟩]
def a147_r2 : List AOper := [⟨some 10, .fa 0 (.t 3), none⟩,
  ⟨some 11, .ld 1 false (.t 10), none⟩,
  ⟨some 12, .bin .eql (.t 11) (.c (.i .i64 1)), none⟩,
  ⟨some 13, .mv (.t 12), none⟩,
  ⟨some 14, .fa 0 (.t 3), some (13, false)⟩,
  ⟨some 15, .ld 1 false (.t 14), some (13, false)⟩,
  ⟨some 16, .bin .eql (.t 15) (.c (.i .i64 3)), some (13, false)⟩,
  ⟨some 17, .pick (.t 13) (.c (.b true)) (.t 16), none⟩]
def a147_r3 : List AOper := [⟨some 18, .mv (.t 0), none⟩,
  ⟨some 19, .mv (.t 0), none⟩,
  ⟨some 20, .call (.c (.clo 77 [])) [.t 19, .c (.i .i64 99)], none⟩,
  ⟨some 21, .rowOf 1 [.i .i64 0] 7 [(0, .c (.i .i64 1)), (1, .c (.i .i64 (-2))), (2, .c (.i .i64 5)), (3, .c (.i .i64 700)), (4, .c (.i .i64 1000000000)), (5, .c (.i .i64 (-1000000000))), (6, .t 20)], none⟩,
  ⟨some 22, .call (.c (.clo 116 [])) [.t 18, .t 21], none⟩,
  ⟨some 23, .fa 2 (.t 3), none⟩,
  ⟨none, .st 1 (.t 23) (.t 22), none⟩]
def a147_r4 : List AOper := [⟨some 24, .ld 3 true (.t 3), none⟩,
  ⟨none, .st 3 (.t 2) (.t 24), none⟩]
def a147 : AFn := ⟨[true], .seq (.reg a147_r0 false []) (.seq (.reg a147_r1 false []) (.seq (.seq (.reg a147_r2 false []) (.cond (.t 17) (.reg a147_r3 false []) (.skip))) (.seq (.reg a147_r4 false []) (.ret)))), [.cell 2 3 true], []⟩
theorem reads147 : readFn Try.prog Try.f147 [true] [] [] = some a147 := by kernel_rfl
-- spec.Drain
def a148_r0 : List AOper := [⟨some 1, .box (.t 0), none⟩,
  ⟨some 2, .new [.b false, .emp, .emp, .emp, .emp], none⟩]
def a148_r1 : List AOper := [⟨some 4, .ld 5 true (.t 1), none⟩,
  ⟨some 5, .call (.c (.clo 18 [])) [.t 4], none⟩,
  ⟨some 6, .un .not (.t 5), none⟩]
def a148_r2 : List AOper := [⟨some 7, .ld 5 true (.t 1), none⟩,
  ⟨some 8, .call (.c (.clo 115 [])) [.t 7], none⟩,
  ⟨none, .st 5 (.t 2) (.t 8), none⟩]
def a148_r3 : List AOper := [⟨some 9, .ld 5 true (.t 1), none⟩,
  ⟨some 10, .call (.c (.clo 115 [])) [.t 9], none⟩,
  ⟨some 11, .call (.c (.clo 171 [])) [.t 10], none⟩,
  ⟨some 12, .call (.c (.clo 169 [])) [.t 11], none⟩,
  ⟨some 3, .new [.b false, .emp, .emp, .emp, .emp], none⟩,
  ⟨none, .st 5 (.t 3) (.t 12), none⟩]
def a148_r4 : List AOper := [⟨some 13, .ld 5 true (.t 3), none⟩,
  ⟨some 14, .call (.c (.clo 18 [])) [.t 13], none⟩,
  ⟨some 15, .un .not (.t 14), none⟩]
def a148_r5 : List AOper := [⟨some 16, .ld 5 true (.t 1), none⟩,
  ⟨some 17, .call (.c (.clo 115 [])) [.t 16], none⟩,
  ⟨none, .st 5 (.t 2) (.t 17), none⟩]
def a148_r6 : List AOper := [⟨some 18, .ld 5 true (.t 3), none⟩,
  ⟨some 19, .call (.c (.clo 115 [])) [.t 18], none⟩,
  ⟨none, .st 5 (.t 2) (.t 19), none⟩]
def a148 : AFn := ⟨[false], .seq (.reg a148_r0 false []) (.seq (.seq (.reg a148_r1 false []) (.cond (.t 6) (.seq (.reg a148_r2 false []) (.ret)) (.skip))) (.seq (.reg a148_r3 false []) (.seq (.seq (.reg a148_r4 false []) (.cond (.t 15) (.seq (.reg a148_r5 false []) (.ret)) (.skip))) (.seq (.reg a148_r6 false []) (.ret))))), [.cell 2 5 true], []⟩
theorem reads148 : readFn Try.prog Try.f148 [false] [] [] = some a148 := by kernel_rfl
-- spec.MapOk
def a152_r0 : List AOper := [⟨some 2, .mv (.c (.b false)), none⟩]
def a152_r1 : List AOper := [⟨some 3, .mv (.c (.i .i64 0)), none⟩]
def a152_r2 : List AOper := [⟨some 4, .mv (.t 3), none⟩,
  ⟨some 5, .mv (.t 0), none⟩,
  ⟨some 6, .len false (.t 5), none⟩,
  ⟨some 7, .bin .lss (.t 4) (.t 6), none⟩]
def a152_r4 : List AOper := [⟨some 10, .mv (.t 0), none⟩,
  ⟨some 11, .mv (.t 3), none⟩,
  ⟨some 12, .ia 2 (.t 10) (.t 11), none⟩,
  ⟨some 13, .fa 0 (.t 12), none⟩,
  ⟨some 14, .ld 1 false (.t 13), none⟩,
  ⟨some 15, .call (.c (.clo 85 [])) [.t 14, .c (.i .i64 0), .c (.i .i64 999)], none⟩,
  ⟨some 16, .un .not (.t 15), none⟩,
  ⟨some 17, .mv (.t 16), none⟩,
  ⟨some 18, .mv (.t 0), some (17, false)⟩,
  ⟨some 19, .mv (.t 3), some (17, false)⟩,
  ⟨some 20, .ia 2 (.t 18) (.t 19), some (17, false)⟩,
  ⟨some 21, .fa 1 (.t 20), some (17, false)⟩,
  ⟨some 22, .ld 1 false (.t 21), some (17, false)⟩,
  ⟨some 23, .call (.c (.clo 153 [])) [.t 22], some (17, false)⟩,
  ⟨some 24, .un .not (.t 23), some (17, false)⟩,
  ⟨some 25, .pick (.t 17) (.c (.b true)) (.t 24), none⟩,
  ⟨some 26, .mv (.t 25), none⟩,
  ⟨some 27, .mv (.t 3), some (26, false)⟩,
  ⟨some 28, .bin .gtr (.t 27) (.c (.i .i64 0)), some (26, false)⟩,
  ⟨some 29, .mv (.t 28), some (26, false)⟩,
  ⟨some 30, .mv (.t 0), some (29, true)⟩,
  ⟨some 31, .mv (.t 3), some (29, true)⟩,
  ⟨some 32, .bin .sub (.t 31) (.c (.i .i64 1)), some (29, true)⟩,
  ⟨some 33, .ia 2 (.t 30) (.t 32), some (29, true)⟩,
  ⟨some 34, .fa 0 (.t 33), some (29, true)⟩,
  ⟨some 35, .ld 1 false (.t 34), some (29, true)⟩,
  ⟨some 36, .mv (.t 0), some (29, true)⟩,
  ⟨some 37, .mv (.t 3), some (29, true)⟩,
  ⟨some 38, .ia 2 (.t 36) (.t 37), some (29, true)⟩,
  ⟨some 39, .fa 0 (.t 38), some (29, true)⟩,
  ⟨some 40, .ld 1 false (.t 39), some (29, true)⟩,
  ⟨some 41, .bin .geq (.t 35) (.t 40), some (29, true)⟩,
  ⟨some 42, .pick (.t 29) (.t 41) (.c (.b false)), some (26, false)⟩,
  ⟨some 43, .pick (.t 26) (.c (.b true)) (.t 42), none⟩]
def a152_r5 : List AOper := [⟨some 2, .mv (.c (.b false)), none⟩]
def a152_r3 : List AOper := [⟨some 8, .mv (.t 3), none⟩,
  ⟨some 9, .bin .add (.t 8) (.c (.i .i64 1)), none⟩,
  ⟨some 3, .mv (.t 9), none⟩]
def a152_l1 : ACode := .seq (.seq (.reg a152_r2 false []) (.cond (.t 7) (.skip) (.exit 0))) (.seq (.block 1 (.seq (.reg a152_r4 true []) (.cond (.t 43) (.seq (.reg a152_r5 false []) (.ret)) (.skip)))) (.reg a152_r3 false []))
def a152_r6 : List AOper := [⟨some 2, .mv (.c (.b true)), none⟩]
def a152 : AFn := ⟨[false], .seq (.reg a152_r0 false []) (.seq (.seq (.reg a152_r1 false []) (.block 0 (.loop [] a152_l1))) (.seq (.reg a152_r6 false []) (.ret))), [.t 2], []⟩
theorem reads152 : readFn Try.prog Try.f152 [false] [] [[]] = some a152 := by kernel_rfl
-- spec.l1Value
def a153_r0 : List AOper := [⟨some 2, .mv (.c (.b false)), none⟩]
def a153_r1 : List AOper := [⟨some 3, .mv (.t 0), none⟩,
  ⟨some 4, .call (.c (.clo 85 [])) [.t 3, .c (.i .i64 (-1000000000)), .c (.i .i64 1000000000)], none⟩,
  ⟨some 2, .mv (.t 4), none⟩]
def a153 : AFn := ⟨[false], .seq (.reg a153_r0 false []) (.seq (.reg a153_r1 false []) (.ret)), [.t 2], []⟩
theorem reads153 : readFn Try.prog Try.f153 [false] [] [] = some a153 := by kernel_rfl
-- spec.l1Put
def a159_r0 : List AOper := [⟨some 6, .mv (.c (.emp)), none⟩]
def a159_r1 : List AOper := [⟨some 10, .rowOf 2 [.i .i64 0, .i .i64 0] 0 [], none⟩,
  ⟨some 7, .mv (.t 10), none⟩]
def a159_r2 : List AOper := [⟨some 8, .mv (.c (.b false)), none⟩]
def a159_r3 : List AOper := [⟨some 9, .mv (.c (.i .i64 0)), none⟩]
def a159_r4 : List AOper := [⟨some 11, .mv (.t 9), none⟩,
  ⟨some 12, .mv (.t 0), none⟩,
  ⟨some 13, .len false (.t 12), none⟩,
  ⟨some 14, .bin .lss (.t 11) (.t 13), none⟩]
def a159_r6 : List AOper := [⟨some 17, .mv (.t 8), none⟩,
  ⟨some 18, .un .not (.t 17), none⟩,
  ⟨some 19, .mv (.t 18), none⟩,
  ⟨some 20, .mv (.t 0), some (19, true)⟩,
  ⟨some 21, .mv (.t 9), some (19, true)⟩,
  ⟨some 22, .ia 2 (.t 20) (.t 21), some (19, true)⟩,
  ⟨some 23, .fa 0 (.t 22), some (19, true)⟩,
  ⟨some 24, .ld 1 false (.t 23), some (19, true)⟩,
  ⟨some 25, .mv (.t 1), some (19, true)⟩,
  ⟨some 26, .bin .geq (.t 24) (.t 25), some (19, true)⟩,
  ⟨some 27, .pick (.t 19) (.t 26) (.c (.b false)), none⟩]
def a159_r7 : List AOper := [⟨some 28, .mv (.t 7), none⟩,
  ⟨some 29, .mv (.t 1), none⟩,
  ⟨some 30, .mv (.t 2), none⟩,
  ⟨some 31, .build [.i .i64 0, .i .i64 0] [(0, 1, .t 29), (1, 1, .t 30)], none⟩,
  ⟨some 32, .rowOf 2 [.i .i64 0, .i .i64 0] 1 [(0, .t 31)], none⟩,
  ⟨some 33, .ap 2 16 (.t 28) (.t 32), none⟩,
  ⟨some 7, .mv (.t 33), none⟩]
def a159_r8 : List AOper := [⟨some 8, .mv (.c (.b true)), none⟩]
def a159_r9 : List AOper := [⟨some 34, .mv (.t 0), none⟩,
  ⟨some 35, .mv (.t 9), none⟩,
  ⟨some 36, .ia 2 (.t 34) (.t 35), none⟩,
  ⟨some 37, .fa 0 (.t 36), none⟩,
  ⟨some 38, .ld 1 false (.t 37), none⟩,
  ⟨some 39, .mv (.t 1), none⟩,
  ⟨some 40, .bin .neq (.t 38) (.t 39), none⟩]
def a159_r10 : List AOper := [⟨some 41, .mv (.t 7), none⟩,
  ⟨some 42, .mv (.t 0), none⟩,
  ⟨some 43, .mv (.t 9), none⟩,
  ⟨some 44, .ia 2 (.t 42) (.t 43), none⟩,
  ⟨some 45, .ld 2 true (.t 44), none⟩,
  ⟨some 46, .rowOf 2 [.i .i64 0, .i .i64 0] 1 [(0, .t 45)], none⟩,
  ⟨some 47, .ap 2 16 (.t 41) (.t 46), none⟩,
  ⟨some 7, .mv (.t 47), none⟩]
def a159_r5 : List AOper := [⟨some 15, .mv (.t 9), none⟩,
  ⟨some 16, .bin .add (.t 15) (.c (.i .i64 1)), none⟩,
  ⟨some 9, .mv (.t 16), none⟩]
def a159_l1 : ACode := .seq (.seq (.reg a159_r4 false []) (.cond (.t 14) (.skip) (.exit 0))) (.seq (.block 1 (.seq (.seq (.reg a159_r6 false []) (.cond (.t 27) (.seq (.reg a159_r7 false []) (.reg a159_r8 false [])) (.skip))) (.seq (.reg a159_r9 false []) (.cond (.t 40) (.reg a159_r10 false []) (.skip))))) (.reg a159_r5 false []))
def a159_r11 : List AOper := [⟨some 48, .mv (.t 8), none⟩,
  ⟨some 49, .un .not (.t 48), none⟩]
def a159_r12 : List AOper := [⟨some 50, .mv (.t 7), none⟩,
  ⟨some 51, .mv (.t 1), none⟩,
  ⟨some 52, .mv (.t 2), none⟩,
  ⟨some 53, .build [.i .i64 0, .i .i64 0] [(0, 1, .t 51), (1, 1, .t 52)], none⟩,
  ⟨some 54, .rowOf 2 [.i .i64 0, .i .i64 0] 1 [(0, .t 53)], none⟩,
  ⟨some 55, .ap 2 16 (.t 50) (.t 54), none⟩,
  ⟨some 7, .mv (.t 55), none⟩]
def a159_r13 : List AOper := [⟨some 56, .mv (.t 7), none⟩,
  ⟨some 6, .mv (.t 56), none⟩]
def a159 : AFn := ⟨[false, false, false], .seq (.reg a159_r0 false []) (.seq (.reg a159_r1 false []) (.seq (.reg a159_r2 false []) (.seq (.seq (.reg a159_r3 false []) (.block 0 (.loop [] a159_l1))) (.seq (.seq (.reg a159_r11 false []) (.cond (.t 49) (.reg a159_r12 false []) (.skip))) (.seq (.reg a159_r13 false []) (.ret)))))), [.t 6], []⟩
theorem reads159 : readFn Try.prog Try.f159 [false, false, false] [] [[]] = some a159 := by kernel_rfl
-- spec.l1Without
def a160_r0 : List AOper := [⟨some 4, .mv (.c (.emp)), none⟩]
def a160_r1 : List AOper := [⟨some 7, .rowOf 2 [.i .i64 0, .i .i64 0] 0 [], none⟩,
  ⟨some 5, .mv (.t 7), none⟩]
def a160_r2 : List AOper := [⟨some 6, .mv (.c (.i .i64 0)), none⟩]
def a160_r3 : List AOper := [⟨some 8, .mv (.t 6), none⟩,
  ⟨some 9, .mv (.t 0), none⟩,
  ⟨some 10, .len false (.t 9), none⟩,
  ⟨some 11, .bin .lss (.t 8) (.t 10), none⟩]
def a160_r5 : List AOper := [⟨some 14, .mv (.t 0), none⟩,
  ⟨some 15, .mv (.t 6), none⟩,
  ⟨some 16, .ia 2 (.t 14) (.t 15), none⟩,
  ⟨some 17, .fa 0 (.t 16), none⟩,
  ⟨some 18, .ld 1 false (.t 17), none⟩,
  ⟨some 19, .mv (.t 1), none⟩,
  ⟨some 20, .bin .neq (.t 18) (.t 19), none⟩]
def a160_r6 : List AOper := [⟨some 21, .mv (.t 5), none⟩,
  ⟨some 22, .mv (.t 0), none⟩,
  ⟨some 23, .mv (.t 6), none⟩,
  ⟨some 24, .ia 2 (.t 22) (.t 23), none⟩,
  ⟨some 25, .ld 2 true (.t 24), none⟩,
  ⟨some 26, .rowOf 2 [.i .i64 0, .i .i64 0] 1 [(0, .t 25)], none⟩,
  ⟨some 27, .ap 2 16 (.t 21) (.t 26), none⟩,
  ⟨some 5, .mv (.t 27), none⟩]
def a160_r4 : List AOper := [⟨some 12, .mv (.t 6), none⟩,
  ⟨some 13, .bin .add (.t 12) (.c (.i .i64 1)), none⟩,
  ⟨some 6, .mv (.t 13), none⟩]
def a160_l1 : ACode := .seq (.seq (.reg a160_r3 false []) (.cond (.t 11) (.skip) (.exit 0))) (.seq (.block 1 (.seq (.reg a160_r5 false []) (.cond (.t 20) (.reg a160_r6 false []) (.skip)))) (.reg a160_r4 false []))
def a160_r7 : List AOper := [⟨some 28, .mv (.t 5), none⟩,
  ⟨some 4, .mv (.t 28), none⟩]
def a160 : AFn := ⟨[false, false], .seq (.reg a160_r0 false []) (.seq (.reg a160_r1 false []) (.seq (.seq (.reg a160_r2 false []) (.block 0 (.loop [] a160_l1))) (.seq (.reg a160_r7 false []) (.ret)))), [.t 4], []⟩
theorem reads160 : readFn Try.prog Try.f160 [false, false] [] [[]] = some a160 := by kernel_rfl
-- spec.l1Clamp
def a161_r0 : List AOper := [⟨some 2, .mv (.c (.i .i64 0)), none⟩]
def a161_r1 : List AOper := [⟨some 3, .mv (.t 0), none⟩,
  ⟨some 4, .call (.c (.clo 174 [])) [.t 3, .c (.i .i64 1000000000)], none⟩,
  ⟨some 5, .call (.c (.clo 165 [])) [.t 4, .c (.i .i64 (-1000000000))], none⟩,
  ⟨some 2, .mv (.t 5), none⟩]
def a161 : AFn := ⟨[false], .seq (.reg a161_r0 false []) (.seq (.reg a161_r1 false []) (.ret)), [.t 2], []⟩
theorem reads161 : readFn Try.prog Try.f161 [false] [] [] = some a161 := by kernel_rfl
-- spec.l6Draw
def a162_r0 : List AOper := [⟨some 4, .new [.emp, .emp], none⟩]
def a162_r1 : List AOper := [⟨some 6, .mv (.t 0), none⟩,
  ⟨some 7, .mv (.t 1), none⟩,
  ⟨some 8, .call (.c (.clo 175 [])) [.t 6, .t 7], none⟩,
  ⟨some 5, .new [.emp, .emp], none⟩,
  ⟨none, .st 2 (.t 5) (.t 8), none⟩]
def a162_r2 : List AOper := [⟨some 9, .fa 1 (.t 5), none⟩,
  ⟨some 10, .ld 1 false (.t 9), none⟩,
  ⟨some 11, .len false (.t 10), none⟩,
  ⟨some 12, .bin .lss (.t 11) (.c (.i .i64 2)), none⟩]
def a162_r3 : List AOper := [⟨some 13, .ld 2 true (.t 5), none⟩,
  ⟨none, .st 2 (.t 4) (.t 13), none⟩]
def a162_r4 : List AOper := [⟨some 14, .mv (.t 0), none⟩,
  ⟨some 15, .call (.c (.clo 77 [])) [.t 14, .c (.i .i64 20)], none⟩]
def a162_r5 : List AOper := [⟨some 17, .bin .eql (.t 15) (.c (.i .i64 0)), none⟩,
  ⟨some 16, .mv (.t 17), none⟩]
def a162_r6 : List AOper := [⟨some 18, .fa 1 (.t 5), none⟩,
  ⟨some 19, .ld 1 false (.t 18), none⟩,
  ⟨some 20, .mv (.t 0), none⟩,
  ⟨some 21, .call (.c (.clo 77 [])) [.t 20, .c (.i .i64 2)], none⟩,
  ⟨some 22, .mv (.t 0), none⟩,
  ⟨some 23, .call (.c (.clo 77 [])) [.t 22, .c (.i .i64 5)], none⟩,
  ⟨some 24, .bin .sub (.t 23) (.c (.i .i64 1)), none⟩,
  ⟨some 25, .ia 2 (.t 19) (.t 21), none⟩,
  ⟨some 26, .fa 0 (.t 25), none⟩,
  ⟨none, .st 1 (.t 26) (.t 24), none⟩]
def a162_r7 : List AOper := [⟨some 28, .bin .eql (.t 15) (.c (.i .i64 1)), none⟩,
  ⟨some 27, .mv (.t 28), none⟩]
def a162_r8 : List AOper := [⟨some 29, .fa 1 (.t 5), none⟩,
  ⟨some 30, .ld 1 false (.t 29), none⟩,
  ⟨some 31, .mv (.t 0), none⟩,
  ⟨some 32, .call (.c (.clo 77 [])) [.t 31, .c (.i .i64 2)], none⟩,
  ⟨some 33, .mv (.t 0), none⟩,
  ⟨some 34, .rowOf 1 [.i .i64 0] 5 [(0, .c (.i .i64 (-1))), (1, .c (.i .i64 0)), (2, .c (.i .i64 1)), (3, .c (.i .i64 199)), (4, .c (.i .i64 200))], none⟩,
  ⟨some 35, .call (.c (.clo 116 [])) [.t 33, .t 34], none⟩,
  ⟨some 36, .ia 2 (.t 30) (.t 32), none⟩,
  ⟨some 37, .fa 1 (.t 36), none⟩,
  ⟨none, .st 1 (.t 37) (.t 35), none⟩]
def a162_r9 : List AOper := [⟨some 39, .bin .eql (.t 15) (.c (.i .i64 2)), none⟩,
  ⟨some 38, .mv (.t 39), none⟩]
def a162_r10 : List AOper := [⟨some 40, .fa 0 (.t 5), none⟩,
  ⟨some 41, .ld 1 false (.t 40), none⟩,
  ⟨some 42, .mv (.t 0), none⟩,
  ⟨some 43, .call (.c (.clo 77 [])) [.t 42, .c (.i .i64 9)], none⟩,
  ⟨some 44, .ia 1 (.t 41) (.t 43), none⟩,
  ⟨none, .st 1 (.t 44) (.c (.s ({ data := #[120] }))), none⟩]
def a162_r11 : List AOper := [⟨some 46, .bin .eql (.t 15) (.c (.i .i64 3)), none⟩,
  ⟨some 45, .mv (.t 46), none⟩]
def a162_r12 : List AOper := [⟨some 47, .fa 1 (.t 5), none⟩,
  ⟨some 48, .ld 1 false (.t 47), none⟩,
  ⟨some 49, .sl 2 (.t 48) none (some (.c (.i .i64 1))) none, none⟩,
  ⟨some 50, .fa 1 (.t 5), none⟩,
  ⟨none, .st 1 (.t 50) (.t 49), none⟩]
def a162_r13 : List AOper := [⟨some 52, .bin .eql (.t 15) (.c (.i .i64 4)), none⟩,
  ⟨some 51, .mv (.t 52), none⟩]
def a162_r14 : List AOper := [⟨some 53, .fa 0 (.t 5), none⟩,
  ⟨some 54, .ld 1 false (.t 53), none⟩,
  ⟨some 55, .mv (.t 0), none⟩,
  ⟨some 56, .call (.c (.clo 77 [])) [.t 55, .c (.i .i64 12)], none⟩,
  ⟨some 57, .sl 1 (.t 54) none (some (.t 56)) none, none⟩,
  ⟨some 58, .fa 0 (.t 5), none⟩,
  ⟨none, .st 1 (.t 58) (.t 57), none⟩]
def a162_r15 : List AOper := [⟨some 60, .bin .eql (.t 15) (.c (.i .i64 5)), none⟩,
  ⟨some 59, .mv (.t 60), none⟩]
def a162_r16 : List AOper := [⟨some 61, .fa 0 (.t 5), none⟩,
  ⟨some 62, .ld 1 false (.t 61), none⟩,
  ⟨some 63, .mv (.t 0), none⟩,
  ⟨some 64, .call (.c (.clo 77 [])) [.t 63, .c (.i .i64 9)], none⟩,
  ⟨some 65, .rowOf 1 [.i .u8 0] 6 [(0, .c (.i .u8 0)), (1, .c (.i .u8 4)), (2, .c (.i .u8 0)), (3, .c (.i .u8 2)), (4, .c (.i .u8 10)), (5, .c (.i .u8 0))], none⟩,
  ⟨some 66, .cvS (.t 65), none⟩,
  ⟨some 67, .ia 1 (.t 62) (.t 64), none⟩,
  ⟨none, .st 1 (.t 67) (.t 66), none⟩]
def a162_r17 : List AOper := [⟨some 68, .ld 2 true (.t 5), none⟩,
  ⟨none, .st 2 (.t 4) (.t 68), none⟩]
def a162 : AFn := ⟨[true, false], .seq (.reg a162_r0 false []) (.seq (.reg a162_r1 false []) (.seq (.seq (.reg a162_r2 false []) (.cond (.t 12) (.seq (.reg a162_r3 false []) (.ret)) (.skip))) (.seq (.seq (.reg a162_r4 false []) (.block 0 (.seq (.reg a162_r5 false []) (.cond (.t 16) (.reg a162_r6 true [(1, 3), (1, 5)]) (.seq (.reg a162_r7 false []) (.cond (.t 27) (.reg a162_r8 true [(1, 3), (1, 5), (3, 5), (1, 6)]) (.seq (.reg a162_r9 false []) (.cond (.t 38) (.reg a162_r10 true [(1, 3)]) (.seq (.reg a162_r11 false []) (.cond (.t 45) (.reg a162_r12 false []) (.seq (.reg a162_r13 false []) (.cond (.t 51) (.reg a162_r14 true [(1, 3)]) (.seq (.reg a162_r15 false []) (.cond (.t 59) (.reg a162_r16 true [(1, 3), (1, 4), (3, 4), (3, 5)]) (.skip))))))))))))))) (.seq (.reg a162_r17 false []) (.ret))))), [.cell 4 2 true], []⟩
theorem reads162 : readFn Try.prog Try.f162 [true, false] [] [] = some a162 := by kernel_rfl
-- spec.l6Plan
def a163_r0 : List AOper := [⟨some 3, .box (.t 0), none⟩,
  ⟨some 6, .mv (.c (.emp)), none⟩,
  ⟨some 7, .mv (.c (.i .i64 0)), none⟩]
def a163_r1 : List AOper := [⟨some 15, .rowOf 1 [.i .i64 0] 0 [], none⟩,
  ⟨some 8, .mv (.t 15), none⟩]
def a163_r2 : List AOper := [⟨some 9, .mv (.c (.i .i64 0)), none⟩]
def a163_r3 : List AOper := [⟨some 16, .mv (.t 9), none⟩,
  ⟨some 17, .fa 3 (.t 3), none⟩,
  ⟨some 18, .ld 1 false (.t 17), none⟩,
  ⟨some 19, .len false (.t 18), none⟩,
  ⟨some 20, .bin .lss (.t 16) (.t 19), none⟩]
def a163_r5 : List AOper := [⟨some 24, .fa 3 (.t 3), none⟩,
  ⟨some 25, .ld 1 false (.t 24), none⟩,
  ⟨some 26, .mv (.t 9), none⟩,
  ⟨some 27, .ia 5 (.t 25) (.t 26), none⟩,
  ⟨some 28, .ld 5 true (.t 27), none⟩,
  ⟨some 29, .mv (.t 1), none⟩,
  ⟨some 30, .mv (.t 2), none⟩,
  ⟨some 31, .call (.c (.clo 163 [])) [.t 28, .t 29, .t 30], none⟩,
  ⟨some 23, .mv (.t 31), none⟩,
  ⟨some 32, .ex (.t 23) 0, none⟩,
  ⟨some 33, .ex (.t 23) 1, none⟩,
  ⟨some 10, .mv (.t 32), none⟩,
  ⟨some 11, .mv (.t 33), none⟩]
def a163_r6 : List AOper := [⟨some 34, .mv (.t 11), none⟩,
  ⟨some 35, .bin .lss (.t 34) (.c (.i .i64 0)), none⟩]
def a163_r7 : List AOper := [⟨some 36, .mv (.t 2), none⟩,
  ⟨some 6, .mv (.t 36), none⟩,
  ⟨some 7, .mv (.c (.i .i64 (-1))), none⟩]
def a163_r8 : List AOper := [⟨some 37, .mv (.t 10), none⟩,
  ⟨some 2, .mv (.t 37), none⟩]
def a163_r9 : List AOper := [⟨some 38, .mv (.t 8), none⟩,
  ⟨some 39, .mv (.t 11), none⟩,
  ⟨some 40, .rowOf 1 [.i .i64 0] 1 [(0, .t 39)], none⟩,
  ⟨some 41, .ap 1 8 (.t 38) (.t 40), none⟩,
  ⟨some 8, .mv (.t 41), none⟩]
def a163_r4 : List AOper := [⟨some 21, .mv (.t 9), none⟩,
  ⟨some 22, .bin .add (.t 21) (.c (.i .i64 1)), none⟩,
  ⟨some 9, .mv (.t 22), none⟩]
def a163_l1 : ACode := .seq (.seq (.reg a163_r3 false []) (.cond (.t 20) (.skip) (.exit 0))) (.seq (.block 1 (.seq (.reg a163_r5 false []) (.seq (.seq (.reg a163_r6 false []) (.cond (.t 35) (.seq (.reg a163_r7 false []) (.ret)) (.skip))) (.seq (.reg a163_r8 false []) (.reg a163_r9 false []))))) (.reg a163_r4 false []))
def a163_r10 : List AOper := [⟨some 12, .mv (.c (.i .i64 0)), none⟩]
def a163_r11 : List AOper := [⟨some 42, .mv (.t 12), none⟩,
  ⟨some 43, .mv (.t 1), none⟩,
  ⟨some 44, .len false (.t 43), none⟩,
  ⟨some 45, .bin .lss (.t 42) (.t 44), none⟩]
def a163_r13 : List AOper := [⟨some 48, .mv (.t 1), none⟩,
  ⟨some 49, .mv (.t 12), none⟩,
  ⟨some 50, .ia 1 (.t 48) (.t 49), none⟩,
  ⟨some 51, .ld 1 false (.t 50), none⟩,
  ⟨some 52, .un .not (.t 51), none⟩]
def a163_r14 : List AOper := [⟨some 53, .mv (.t 1), none⟩,
  ⟨some 54, .mv (.t 12), none⟩,
  ⟨some 55, .ia 1 (.t 53) (.t 54), none⟩,
  ⟨none, .st 1 (.t 55) (.c (.b true)), none⟩]
def a163_r15 : List AOper := [⟨some 57, .ld 5 true (.t 3), none⟩,
  ⟨some 58, .mv (.t 8), none⟩,
  ⟨some 59, .call (.c (.clo 88 [])) [.t 57, .t 58], none⟩,
  ⟨some 56, .mv (.t 59), none⟩,
  ⟨some 60, .ex (.t 56) 0, none⟩,
  ⟨some 61, .ex (.t 56) 1, none⟩,
  ⟨some 13, .mv (.t 60), none⟩,
  ⟨some 14, .mv (.t 61), none⟩]
def a163_r16 : List AOper := [⟨some 62, .mv (.t 2), none⟩,
  ⟨some 63, .mv (.t 12), none⟩,
  ⟨some 64, .mv (.t 13), none⟩,
  ⟨some 65, .cvS (.t 64), none⟩,
  ⟨some 66, .build [.i .i64 0, .s ByteArray.empty, .i .i64 0, .i .i64 0] [(0, 1, .t 63), (1, 1, .t 65)], none⟩,
  ⟨some 67, .rowOf 4 [.i .i64 0, .s ByteArray.empty, .i .i64 0, .i .i64 0] 1 [(0, .t 66)], none⟩,
  ⟨some 68, .ap 4 40 (.t 62) (.t 67), none⟩,
  ⟨some 69, .mv (.t 12), none⟩,
  ⟨some 6, .mv (.t 68), none⟩,
  ⟨some 7, .mv (.t 69), none⟩]
def a163_r12 : List AOper := [⟨some 46, .mv (.t 12), none⟩,
  ⟨some 47, .bin .add (.t 46) (.c (.i .i64 1)), none⟩,
  ⟨some 12, .mv (.t 47), none⟩]
def a163_l2 : ACode := .seq (.seq (.reg a163_r11 false []) (.cond (.t 45) (.skip) (.exit 2))) (.seq (.block 3 (.seq (.reg a163_r13 false []) (.cond (.t 52) (.seq (.reg a163_r14 false []) (.seq (.reg a163_r15 false []) (.seq (.reg a163_r16 false []) (.ret)))) (.skip)))) (.reg a163_r12 false []))
def a163_r17 : List AOper := [⟨some 70, .mv (.t 2), none⟩,
  ⟨some 6, .mv (.t 70), none⟩,
  ⟨some 7, .mv (.c (.i .i64 (-1))), none⟩]
def a163 : AFn := ⟨[false, true, true], .seq (.reg a163_r0 false []) (.seq (.reg a163_r1 false []) (.seq (.seq (.reg a163_r2 false []) (.block 0 (.loop [] a163_l1))) (.seq (.seq (.reg a163_r10 false []) (.block 2 (.loop [] a163_l2))) (.seq (.reg a163_r17 false []) (.ret))))), [.t 6, .t 7], [2]⟩
theorem reads163 : readFn Try.prog Try.f163 [false, true, true] [2] [[], []] = some a163 := by kernel_rfl
-- spec.l6Taken
def a164_r0 : List AOper := [⟨some 1, .box (.t 0), none⟩,
  ⟨some 2, .mv (.c (.emp)), none⟩]
def a164_r1 : List AOper := [⟨some 7, .fa 0 (.t 1), none⟩,
  ⟨some 8, .ld 1 false (.t 7), none⟩,
  ⟨some 9, .len false (.t 8), none⟩,
  ⟨some 10, .mk 1 1 [.b false] (.t 9) (.t 9), none⟩,
  ⟨some 3, .mv (.t 10), none⟩]
def a164_r2 : List AOper := [⟨some 4, .mv (.c (.i .i64 0)), none⟩]
def a164_r3 : List AOper := [⟨some 11, .mv (.t 4), none⟩,
  ⟨some 12, .fa 1 (.t 1), none⟩,
  ⟨some 13, .ld 1 false (.t 12), none⟩,
  ⟨some 14, .len false (.t 13), none⟩,
  ⟨some 15, .bin .lss (.t 11) (.t 14), none⟩]
def a164_r5 : List AOper := [⟨some 18, .fa 1 (.t 1), none⟩,
  ⟨some 19, .ld 1 false (.t 18), none⟩,
  ⟨some 20, .mv (.t 4), none⟩,
  ⟨some 21, .ia 2 (.t 19) (.t 20), none⟩,
  ⟨some 22, .fa 0 (.t 21), none⟩,
  ⟨some 23, .ld 1 false (.t 22), none⟩,
  ⟨some 24, .bin .leq (.t 23) (.c (.i .i64 0)), none⟩]
def a164_r6 : List AOper := [⟨some 25, .fa 0 (.t 1), none⟩,
  ⟨some 26, .ld 1 false (.t 25), none⟩,
  ⟨some 27, .len false (.t 26), none⟩,
  ⟨some 28, .mk 1 1 [.b false] (.t 27) (.t 27), none⟩,
  ⟨some 5, .mv (.t 28), none⟩]
def a164_r7 : List AOper := [⟨some 29, .ld 2 true (.t 1), none⟩,
  ⟨some 30, .fa 1 (.t 1), none⟩,
  ⟨some 31, .ld 1 false (.t 30), none⟩,
  ⟨some 32, .mv (.t 4), none⟩,
  ⟨some 33, .ia 2 (.t 31) (.t 32), none⟩,
  ⟨some 34, .fa 1 (.t 33), none⟩,
  ⟨some 35, .ld 1 false (.t 34), none⟩,
  ⟨some 36, .mv (.t 5), none⟩,
  ⟨some 37, .call (.c (.clo 176 [])) [.t 29, .t 35, .c (.i .i64 7), .t 36], none⟩]
def a164_r8 : List AOper := [⟨some 6, .mv (.c (.i .i64 0)), none⟩]
def a164_r9 : List AOper := [⟨some 38, .mv (.t 6), none⟩,
  ⟨some 39, .mv (.t 5), none⟩,
  ⟨some 40, .len false (.t 39), none⟩,
  ⟨some 41, .bin .lss (.t 38) (.t 40), none⟩]
def a164_r11 : List AOper := [⟨some 44, .mv (.t 3), none⟩,
  ⟨some 45, .mv (.t 6), none⟩,
  ⟨some 46, .mv (.t 3), none⟩,
  ⟨some 47, .mv (.t 6), none⟩,
  ⟨some 48, .ia 1 (.t 46) (.t 47), none⟩,
  ⟨some 49, .ld 1 false (.t 48), none⟩,
  ⟨some 50, .mv (.t 49), none⟩,
  ⟨some 51, .mv (.t 5), some (50, false)⟩,
  ⟨some 52, .mv (.t 6), some (50, false)⟩,
  ⟨some 53, .ia 1 (.t 51) (.t 52), some (50, false)⟩,
  ⟨some 54, .ld 1 false (.t 53), some (50, false)⟩,
  ⟨some 55, .pick (.t 50) (.c (.b true)) (.t 54), none⟩,
  ⟨some 56, .ia 1 (.t 44) (.t 45), none⟩,
  ⟨none, .st 1 (.t 56) (.t 55), none⟩]
def a164_r10 : List AOper := [⟨some 42, .mv (.t 6), none⟩,
  ⟨some 43, .bin .add (.t 42) (.c (.i .i64 1)), none⟩,
  ⟨some 6, .mv (.t 43), none⟩]
def a164_l1 : ACode := .seq (.seq (.reg a164_r9 false []) (.cond (.t 41) (.skip) (.exit 2))) (.seq (.block 3 (.reg a164_r11 false [])) (.reg a164_r10 false []))
def a164_r4 : List AOper := [⟨some 16, .mv (.t 4), none⟩,
  ⟨some 17, .bin .add (.t 16) (.c (.i .i64 1)), none⟩,
  ⟨some 4, .mv (.t 17), none⟩]
def a164_l2 : ACode := .seq (.seq (.reg a164_r3 false []) (.cond (.t 15) (.skip) (.exit 0))) (.seq (.block 1 (.seq (.seq (.reg a164_r5 false []) (.cond (.t 24) (.exit 1) (.skip))) (.seq (.reg a164_r6 false []) (.seq (.reg a164_r7 true []) (.cond (.t 37) (.seq (.reg a164_r8 false []) (.block 2 (.loop [] a164_l1))) (.skip)))))) (.reg a164_r4 false []))
def a164_r12 : List AOper := [⟨some 57, .mv (.t 3), none⟩,
  ⟨some 2, .mv (.t 57), none⟩]
def a164 : AFn := ⟨[false], .seq (.reg a164_r0 false []) (.seq (.reg a164_r1 false []) (.seq (.seq (.reg a164_r2 false []) (.block 0 (.loop [] a164_l2))) (.seq (.reg a164_r12 false []) (.ret)))), [.t 2], []⟩
theorem reads164 : readFn Try.prog Try.f164 [false] [] [[], []] = some a164 := by kernel_rfl
-- spec.l1Max
def a165_r0 : List AOper := [⟨some 4, .mv (.c (.i .i64 0)), none⟩]
def a165_r1 : List AOper := [⟨some 5, .mv (.t 0), none⟩,
  ⟨some 6, .mv (.t 1), none⟩,
  ⟨some 7, .bin .gtr (.t 5) (.t 6), none⟩]
def a165_r2 : List AOper := [⟨some 8, .mv (.t 0), none⟩,
  ⟨some 4, .mv (.t 8), none⟩]
def a165_r3 : List AOper := [⟨some 9, .mv (.t 1), none⟩,
  ⟨some 4, .mv (.t 9), none⟩]
def a165 : AFn := ⟨[false, false], .seq (.reg a165_r0 false []) (.seq (.seq (.reg a165_r1 false []) (.cond (.t 7) (.seq (.reg a165_r2 false []) (.ret)) (.skip))) (.seq (.reg a165_r3 false []) (.ret))), [.t 4], []⟩
theorem reads165 : readFn Try.prog Try.f165 [false, false] [] [] = some a165 := by kernel_rfl
-- spec.PutNum
def a166_r0 : List AOper := [⟨some 2, .mv (.c (.emp)), none⟩]
def a166_r1 : List AOper := [⟨some 5, .rowOf 1 [.i .u8 0] 0 [], none⟩,
  ⟨some 3, .mv (.t 5), none⟩]
def a166_r2 : List AOper := [⟨some 6, .mv (.t 0), none⟩,
  ⟨some 7, .call (.c (.clo 85 [])) [.t 6, .c (.i .i64 (-2000000000)), .c (.i .i64 2000000000)], none⟩,
  ⟨some 8, .un .not (.t 7), none⟩]
def a166_r3 : List AOper := [⟨some 9, .mv (.t 3), none⟩,
  ⟨some 2, .mv (.t 9), none⟩]
def a166_r4 : List AOper := [⟨some 10, .mv (.t 0), none⟩,
  ⟨some 11, .bin .mul (.c (.i .i64 2)) (.t 10), none⟩,
  ⟨some 4, .mv (.t 11), none⟩]
def a166_r5 : List AOper := [⟨some 12, .mv (.t 0), none⟩,
  ⟨some 13, .bin .lss (.t 12) (.c (.i .i64 0)), none⟩]
def a166_r6 : List AOper := [⟨some 14, .mv (.t 0), none⟩,
  ⟨some 15, .bin .mul (.c (.i .i64 (-2))) (.t 14), none⟩,
  ⟨some 16, .bin .sub (.t 15) (.c (.i .i64 1)), none⟩,
  ⟨some 4, .mv (.t 16), none⟩]
def a166_r7 : List AOper := [⟨some 17, .mv (.t 4), none⟩,
  ⟨some 18, .bin .gtr (.t 17) (.c (.i .i64 127)), none⟩]
def a166_r8 : List AOper := [⟨some 19, .mv (.t 3), none⟩,
  ⟨some 20, .mv (.t 4), none⟩,
  ⟨some 21, .bin .rem (.t 20) (.c (.i .i64 128)), none⟩,
  ⟨some 22, .bin .add (.t 21) (.c (.i .i64 128)), none⟩,
  ⟨some 23, .cvI .u8 (.t 22), none⟩,
  ⟨some 24, .rowOf 1 [.i .u8 0] 1 [(0, .t 23)], none⟩,
  ⟨some 25, .ap 1 1 (.t 19) (.t 24), none⟩,
  ⟨some 3, .mv (.t 25), none⟩]
def a166_r9 : List AOper := [⟨some 26, .mv (.t 4), none⟩,
  ⟨some 27, .bin .quo (.t 26) (.c (.i .i64 128)), none⟩,
  ⟨some 4, .mv (.t 27), none⟩]
def a166_l1 : ACode := .seq (.seq (.reg a166_r7 false []) (.cond (.t 18) (.skip) (.exit 0))) (.block 1 (.seq (.reg a166_r8 false []) (.reg a166_r9 false [])))
def a166_r10 : List AOper := [⟨some 28, .mv (.t 3), none⟩,
  ⟨some 29, .mv (.t 4), none⟩,
  ⟨some 30, .cvI .u8 (.t 29), none⟩,
  ⟨some 31, .rowOf 1 [.i .u8 0] 1 [(0, .t 30)], none⟩,
  ⟨some 32, .ap 1 1 (.t 28) (.t 31), none⟩,
  ⟨some 2, .mv (.t 32), none⟩]
def a166 : AFn := ⟨[false], .seq (.reg a166_r0 false []) (.seq (.reg a166_r1 false []) (.seq (.seq (.reg a166_r2 false []) (.cond (.t 8) (.seq (.reg a166_r3 false []) (.ret)) (.skip))) (.seq (.reg a166_r4 false []) (.seq (.seq (.reg a166_r5 false []) (.cond (.t 13) (.reg a166_r6 false []) (.skip))) (.seq (.block 0 (.loop [] a166_l1)) (.seq (.reg a166_r10 false []) (.ret))))))), [.t 2], []⟩
theorem reads166 : readFn Try.prog Try.f166 [false] [] [[]] = some a166 := by kernel_rfl
-- spec.l4Root
def a169_r0 : List AOper := [⟨some 1, .box (.t 0), none⟩,
  ⟨some 2, .new [.b false, .emp, .emp, .emp, .emp], none⟩]
def a169_r1 : List AOper := [⟨some 3, .fa 0 (.t 1), none⟩,
  ⟨some 4, .ld 1 false (.t 3), none⟩,
  ⟨some 5, .len false (.t 4), none⟩,
  ⟨some 6, .bin .gtr (.t 5) (.c (.i .i64 4)), none⟩]
def a169_r2 : List AOper := [⟨some 7, .ld 2 true (.t 1), none⟩,
  ⟨some 8, .call (.c (.clo 177 [])) [.t 7], none⟩,
  ⟨none, .st 2 (.t 1) (.t 8), none⟩]
def a169_l1 : ACode := .seq (.seq (.reg a169_r1 false []) (.cond (.t 6) (.skip) (.exit 0))) (.block 1 (.reg a169_r2 false []))
def a169_r3 : List AOper := [⟨some 9, .fa 0 (.t 1), none⟩,
  ⟨some 10, .ld 1 false (.t 9), none⟩,
  ⟨some 11, .len false (.t 10), none⟩,
  ⟨some 12, .bin .eql (.t 11) (.c (.i .i64 1)), none⟩]
def a169_r4 : List AOper := [⟨some 13, .fa 0 (.t 1), none⟩,
  ⟨some 14, .ld 1 false (.t 13), none⟩,
  ⟨some 15, .ia 5 (.t 14) (.c (.i .i64 0)), none⟩,
  ⟨some 16, .ld 5 true (.t 15), none⟩,
  ⟨none, .st 5 (.t 2) (.t 16), none⟩]
def a169_r5 : List AOper := [⟨some 17, .fa 0 (.t 1), none⟩,
  ⟨some 18, .ld 1 false (.t 17), none⟩,
  ⟨some 19, .fa 1 (.t 1), none⟩,
  ⟨some 20, .ld 1 false (.t 19), none⟩,
  ⟨some 21, .build [.b false, .emp, .emp, .emp, .emp] [(3, 1, .t 18), (2, 1, .t 20)], none⟩,
  ⟨none, .st 5 (.t 2) (.t 21), none⟩]
def a169 : AFn := ⟨[false], .seq (.reg a169_r0 false []) (.seq (.block 0 (.loop [] a169_l1)) (.seq (.seq (.reg a169_r3 false []) (.cond (.t 12) (.seq (.reg a169_r4 false []) (.ret)) (.skip))) (.seq (.reg a169_r5 false []) (.ret)))), [.cell 2 5 true], []⟩
theorem reads169 : readFn Try.prog Try.f169 [false] [] [[]] = some a169 := by kernel_rfl
-- spec.l4Give
def a170_r0 : List AOper := [⟨some 2, .box (.t 0), none⟩,
  ⟨some 4, .new [.emp, .emp], none⟩]
def a170_r1 : List AOper := [⟨some 10, .fa 0 (.t 2), none⟩,
  ⟨some 11, .ld 1 false (.t 10), none⟩]
def a170_r2 : List AOper := [⟨some 12, .fa 1 (.t 2), none⟩,
  ⟨some 13, .ld 1 false (.t 12), none⟩,
  ⟨some 14, .mv (.t 1), none⟩,
  ⟨some 15, .call (.c (.clo 73 [])) [.t 13, .t 14], none⟩,
  ⟨some 16, .call (.c (.clo 178 [])) [.t 15], none⟩,
  ⟨none, .st 2 (.t 4) (.t 16), none⟩]
def a170_r3 : List AOper := [⟨some 17, .rowOf 3 [.i .i64 0, .i .i64 0, .i .i64 0] 0 [], none⟩,
  ⟨some 18, .fa 4 (.t 2), none⟩,
  ⟨some 19, .ld 1 false (.t 18), none⟩,
  ⟨some 20, .ap 3 24 (.t 17) (.t 19), none⟩,
  ⟨some 21, .mv (.t 1), none⟩,
  ⟨some 22, .ap 3 24 (.t 20) (.t 21), none⟩,
  ⟨some 23, .call (.c (.clo 179 [])) [.t 22], none⟩,
  ⟨some 5, .mv (.t 23), none⟩]
def a170_r4 : List AOper := [⟨some 24, .fa 3 (.t 2), none⟩,
  ⟨some 25, .ld 1 false (.t 24), none⟩,
  ⟨some 26, .fa 2 (.t 2), none⟩,
  ⟨some 27, .ld 1 false (.t 26), none⟩,
  ⟨some 28, .build [.emp, .emp] [(0, 1, .t 25), (1, 1, .t 27)], none⟩,
  ⟨some 6, .new [.emp, .emp], none⟩,
  ⟨none, .st 2 (.t 6) (.t 28), none⟩]
def a170_r5 : List AOper := [⟨some 29, .mv (.t 5), none⟩,
  ⟨some 30, .len false (.t 29), none⟩,
  ⟨some 31, .bin .gtr (.t 30) (.c (.i .i64 6)), none⟩]
def a170_r6 : List AOper := [⟨some 32, .ld 2 true (.t 6), none⟩,
  ⟨some 33, .mv (.t 5), none⟩,
  ⟨some 34, .call (.c (.clo 180 [])) [.t 32, .t 33], none⟩,
  ⟨some 7, .mv (.t 34), none⟩]
def a170_r7 : List AOper := [⟨some 36, .ld 2 true (.t 6), none⟩,
  ⟨some 37, .mv (.t 5), none⟩,
  ⟨some 38, .mv (.t 7), none⟩,
  ⟨some 39, .call (.c (.clo 181 [])) [.t 36, .t 37, .t 38], none⟩,
  ⟨some 35, .mv (.t 39), none⟩,
  ⟨some 40, .ex (.t 35) 0, none⟩,
  ⟨some 41, .ex (.t 35) 1, none⟩,
  ⟨some 8, .mv (.t 40), none⟩,
  ⟨some 9, .mv (.t 41), none⟩]
def a170_r8 : List AOper := [⟨some 42, .mv (.t 9), none⟩,
  ⟨some 5, .mv (.t 42), none⟩]
def a170_r9 : List AOper := [⟨some 43, .ld 2 true (.t 6), none⟩,
  ⟨some 44, .mv (.t 7), none⟩,
  ⟨some 45, .fa 0 (.t 6), none⟩,
  ⟨some 46, .ld 1 false (.t 45), none⟩,
  ⟨some 47, .mv (.t 7), none⟩,
  ⟨some 48, .ia 5 (.t 46) (.t 47), none⟩,
  ⟨some 49, .ld 5 true (.t 48), none⟩,
  ⟨some 50, .mv (.t 8), none⟩,
  ⟨some 51, .call (.c (.clo 170 [])) [.t 49, .t 50], none⟩,
  ⟨some 52, .call (.c (.clo 182 [])) [.t 43, .t 44, .t 51], none⟩,
  ⟨none, .st 2 (.t 6) (.t 52), none⟩]
def a170_l1 : ACode := .seq (.seq (.reg a170_r5 false []) (.cond (.t 31) (.skip) (.exit 0))) (.block 1 (.seq (.reg a170_r6 false []) (.seq (.reg a170_r7 false []) (.seq (.reg a170_r8 false []) (.reg a170_r9 true [(0, 8)])))))
def a170_r10 : List AOper := [⟨some 53, .fa 0 (.t 6), none⟩,
  ⟨some 54, .ld 1 false (.t 53), none⟩,
  ⟨some 55, .len false (.t 54), none⟩,
  ⟨some 56, .bin .gtr (.t 55) (.c (.i .i64 4)), none⟩]
def a170_r11 : List AOper := [⟨some 57, .ld 2 true (.t 6), none⟩,
  ⟨some 58, .mv (.t 5), none⟩,
  ⟨some 59, .call (.c (.clo 183 [])) [.t 57, .t 58], none⟩,
  ⟨some 60, .call (.c (.clo 177 [])) [.t 59], none⟩,
  ⟨none, .st 2 (.t 4) (.t 60), none⟩]
def a170_r12 : List AOper := [⟨some 61, .fa 0 (.t 6), none⟩,
  ⟨some 62, .ld 1 false (.t 61), none⟩,
  ⟨some 63, .fa 1 (.t 6), none⟩,
  ⟨some 64, .ld 1 false (.t 63), none⟩,
  ⟨some 65, .mv (.t 5), none⟩,
  ⟨some 66, .build [.b false, .emp, .emp, .emp, .emp] [(3, 1, .t 62), (2, 1, .t 64), (4, 1, .t 65)], none⟩,
  ⟨some 67, .rowOf 5 [.b false, .emp, .emp, .emp, .emp] 1 [(0, .t 66)], none⟩,
  ⟨some 68, .build [.emp, .emp] [(0, 1, .t 67)], none⟩,
  ⟨none, .st 2 (.t 4) (.t 68), none⟩]
def a170 : AFn := ⟨[false, false], .seq (.reg a170_r0 false []) (.seq (.seq (.reg a170_r1 false []) (.cond (.t 11) (.seq (.reg a170_r2 false []) (.ret)) (.skip))) (.seq (.reg a170_r3 false []) (.seq (.reg a170_r4 false []) (.seq (.block 0 (.loop [] a170_l1)) (.seq (.seq (.reg a170_r10 false []) (.cond (.t 56) (.seq (.reg a170_r11 false []) (.ret)) (.skip))) (.seq (.reg a170_r12 false []) (.ret))))))), [.cell 4 2 true], []⟩
theorem reads170 : readFn Try.prog Try.f170 [false, false] [] [[]] = some a170 := by kernel_rfl
-- spec.l4Drain
def a171_r0 : List AOper := [⟨some 1, .box (.t 0), none⟩,
  ⟨some 2, .new [.emp, .emp], none⟩]
def a171_r1 : List AOper := [⟨some 7, .fa 0 (.t 1), none⟩,
  ⟨some 8, .ld 1 false (.t 7), none⟩]
def a171_r2 : List AOper := [⟨some 9, .ld 5 true (.t 1), none⟩,
  ⟨some 10, .rowOf 5 [.b false, .emp, .emp, .emp, .emp] 1 [(0, .t 9)], none⟩,
  ⟨some 11, .build [.emp, .emp] [(0, 1, .t 10)], none⟩,
  ⟨none, .st 2 (.t 2) (.t 11), none⟩]
def a171_r3 : List AOper := [⟨some 12, .fa 3 (.t 1), none⟩,
  ⟨some 13, .ld 1 false (.t 12), none⟩,
  ⟨some 14, .fa 2 (.t 1), none⟩,
  ⟨some 15, .ld 1 false (.t 14), none⟩,
  ⟨some 16, .build [.emp, .emp] [(0, 1, .t 13), (1, 1, .t 15)], none⟩,
  ⟨some 17, .fa 4 (.t 1), none⟩,
  ⟨some 18, .ld 1 false (.t 17), none⟩,
  ⟨some 19, .call (.c (.clo 183 [])) [.t 16, .t 18], none⟩,
  ⟨some 3, .new [.emp, .emp], none⟩,
  ⟨none, .st 2 (.t 3) (.t 19), none⟩]
def a171_r4 : List AOper := [⟨some 20, .build [.emp, .emp] [], none⟩,
  ⟨some 4, .new [.emp, .emp], none⟩,
  ⟨none, .st 2 (.t 4) (.t 20), none⟩]
def a171_r5 : List AOper := [⟨some 5, .mv (.c (.i .i64 0)), none⟩]
def a171_r6 : List AOper := [⟨some 21, .mv (.t 5), none⟩,
  ⟨some 22, .fa 0 (.t 3), none⟩,
  ⟨some 23, .ld 1 false (.t 22), none⟩,
  ⟨some 24, .len false (.t 23), none⟩,
  ⟨some 25, .bin .lss (.t 21) (.t 24), none⟩]
def a171_r8 : List AOper := [⟨some 28, .fa 0 (.t 3), none⟩,
  ⟨some 29, .ld 1 false (.t 28), none⟩,
  ⟨some 30, .mv (.t 5), none⟩,
  ⟨some 31, .ia 5 (.t 29) (.t 30), none⟩,
  ⟨some 32, .ld 5 true (.t 31), none⟩,
  ⟨some 33, .call (.c (.clo 171 [])) [.t 32], none⟩,
  ⟨some 6, .new [.emp, .emp], none⟩,
  ⟨none, .st 2 (.t 6) (.t 33), none⟩]
def a171_r9 : List AOper := [⟨some 34, .mv (.t 5), none⟩,
  ⟨some 35, .bin .gtr (.t 34) (.c (.i .i64 0)), none⟩]
def a171_r10 : List AOper := [⟨some 36, .fa 1 (.t 4), none⟩,
  ⟨some 37, .ld 1 false (.t 36), none⟩,
  ⟨some 38, .fa 1 (.t 3), none⟩,
  ⟨some 39, .ld 1 false (.t 38), none⟩,
  ⟨some 40, .mv (.t 5), none⟩,
  ⟨some 41, .bin .sub (.t 40) (.c (.i .i64 1)), none⟩,
  ⟨some 42, .ia 1 (.t 39) (.t 41), none⟩,
  ⟨some 43, .ld 1 false (.t 42), none⟩,
  ⟨some 44, .rowOf 1 [.i .i64 0] 1 [(0, .t 43)], none⟩,
  ⟨some 45, .ap 1 8 (.t 37) (.t 44), none⟩,
  ⟨some 46, .fa 1 (.t 4), none⟩,
  ⟨none, .st 1 (.t 46) (.t 45), none⟩]
def a171_r11 : List AOper := [⟨some 47, .fa 0 (.t 4), none⟩,
  ⟨some 48, .ld 1 false (.t 47), none⟩,
  ⟨some 49, .fa 0 (.t 6), none⟩,
  ⟨some 50, .ld 1 false (.t 49), none⟩,
  ⟨some 51, .ap 5 104 (.t 48) (.t 50), none⟩,
  ⟨some 52, .fa 0 (.t 4), none⟩,
  ⟨none, .st 1 (.t 52) (.t 51), none⟩]
def a171_r12 : List AOper := [⟨some 53, .fa 1 (.t 4), none⟩,
  ⟨some 54, .ld 1 false (.t 53), none⟩,
  ⟨some 55, .fa 1 (.t 6), none⟩,
  ⟨some 56, .ld 1 false (.t 55), none⟩,
  ⟨some 57, .ap 1 8 (.t 54) (.t 56), none⟩,
  ⟨some 58, .fa 1 (.t 4), none⟩,
  ⟨none, .st 1 (.t 58) (.t 57), none⟩]
def a171_r7 : List AOper := [⟨some 26, .mv (.t 5), none⟩,
  ⟨some 27, .bin .add (.t 26) (.c (.i .i64 1)), none⟩,
  ⟨some 5, .mv (.t 27), none⟩]
def a171_l1 : ACode := .seq (.seq (.reg a171_r6 false []) (.cond (.t 25) (.skip) (.exit 0))) (.seq (.block 1 (.seq (.reg a171_r8 false []) (.seq (.seq (.reg a171_r9 false []) (.cond (.t 35) (.reg a171_r10 true [(1, 8)]) (.skip))) (.seq (.reg a171_r11 false []) (.reg a171_r12 false []))))) (.reg a171_r7 false []))
def a171_r13 : List AOper := [⟨some 59, .fa 0 (.t 4), none⟩,
  ⟨some 60, .ld 1 false (.t 59), none⟩,
  ⟨some 61, .len false (.t 60), none⟩,
  ⟨some 62, .bin .gtr (.t 61) (.c (.i .i64 4)), none⟩]
def a171_r14 : List AOper := [⟨some 63, .ld 2 true (.t 4), none⟩,
  ⟨some 64, .call (.c (.clo 177 [])) [.t 63], none⟩,
  ⟨none, .st 2 (.t 2) (.t 64), none⟩]
def a171_r15 : List AOper := [⟨some 65, .fa 0 (.t 4), none⟩,
  ⟨some 66, .ld 1 false (.t 65), none⟩,
  ⟨some 67, .fa 1 (.t 4), none⟩,
  ⟨some 68, .ld 1 false (.t 67), none⟩,
  ⟨some 69, .build [.b false, .emp, .emp, .emp, .emp] [(3, 1, .t 66), (2, 1, .t 68)], none⟩,
  ⟨some 70, .rowOf 5 [.b false, .emp, .emp, .emp, .emp] 1 [(0, .t 69)], none⟩,
  ⟨some 71, .build [.emp, .emp] [(0, 1, .t 70)], none⟩,
  ⟨none, .st 2 (.t 2) (.t 71), none⟩]
def a171 : AFn := ⟨[false], .seq (.reg a171_r0 false []) (.seq (.seq (.reg a171_r1 false []) (.cond (.t 8) (.seq (.reg a171_r2 false []) (.ret)) (.skip))) (.seq (.reg a171_r3 false []) (.seq (.reg a171_r4 false []) (.seq (.seq (.reg a171_r5 false []) (.block 0 (.loop [] a171_l1))) (.seq (.seq (.reg a171_r13 false []) (.cond (.t 62) (.seq (.reg a171_r14 false []) (.ret)) (.skip))) (.seq (.reg a171_r15 false []) (.ret))))))), [.cell 2 2 true], []⟩
theorem reads171 : readFn Try.prog Try.f171 [false] [] [[]] = some a171 := by kernel_rfl
-- spec.l1Min
def a174_r0 : List AOper := [⟨some 4, .mv (.c (.i .i64 0)), none⟩]
def a174_r1 : List AOper := [⟨some 5, .mv (.t 0), none⟩,
  ⟨some 6, .mv (.t 1), none⟩,
  ⟨some 7, .bin .lss (.t 5) (.t 6), none⟩]
def a174_r2 : List AOper := [⟨some 8, .mv (.t 0), none⟩,
  ⟨some 4, .mv (.t 8), none⟩]
def a174_r3 : List AOper := [⟨some 9, .mv (.t 1), none⟩,
  ⟨some 4, .mv (.t 9), none⟩]
def a174 : AFn := ⟨[false, false], .seq (.reg a174_r0 false []) (.seq (.seq (.reg a174_r1 false []) (.cond (.t 7) (.seq (.reg a174_r2 false []) (.ret)) (.skip))) (.seq (.reg a174_r3 false []) (.ret))), [.t 4], []⟩
theorem reads174 : readFn Try.prog Try.f174 [false, false] [] [] = some a174 := by kernel_rfl
-- spec.l6DrawRight
def a175_r0 : List AOper := [⟨some 4, .new [.emp, .emp], none⟩]
def a175_r1 : List AOper := [⟨some 11, .mv (.t 0), none⟩,
  ⟨some 12, .mv (.t 1), none⟩,
  ⟨some 13, .call (.c (.clo 112 [])) [.t 11, .t 12], none⟩,
  ⟨some 5, .new [.b false, .emp, .emp, .emp, .emp], none⟩,
  ⟨none, .st 5 (.t 5) (.t 13), none⟩]
def a175_r2 : List AOper := [⟨some 15, .ld 5 true (.t 5), none⟩,
  ⟨some 16, .call (.c (.clo 185 [])) [.t 15], none⟩,
  ⟨some 14, .mv (.t 16), none⟩,
  ⟨some 17, .ex (.t 14) 0, none⟩,
  ⟨some 18, .ex (.t 14) 1, none⟩,
  ⟨some 6, .new [.emp, .emp], none⟩,
  ⟨none, .st 2 (.t 6) (.t 17), none⟩,
  ⟨some 7, .mv (.t 18), none⟩]
def a175_r3 : List AOper := [⟨some 8, .mv (.c (.i .i64 0)), none⟩]
def a175_r4 : List AOper := [⟨some 19, .mv (.t 8), none⟩,
  ⟨some 20, .mv (.t 0), none⟩,
  ⟨some 21, .call (.c (.clo 77 [])) [.t 20, .c (.i .i64 3)], none⟩,
  ⟨some 22, .bin .lss (.t 19) (.t 21), none⟩]
def a175_r6 : List AOper := [⟨some 25, .ld 5 true (.t 5), none⟩,
  ⟨some 26, .mv (.t 0), none⟩,
  ⟨some 27, .call (.c (.clo 147 [])) [.t 26], none⟩,
  ⟨some 28, .call (.c (.clo 146 [])) [.t 25, .t 27], none⟩,
  ⟨none, .st 5 (.t 5) (.t 28), none⟩]
def a175_r7 : List AOper := [⟨some 30, .ld 2 true (.t 6), none⟩,
  ⟨some 31, .ld 5 true (.t 5), none⟩,
  ⟨some 32, .call (.c (.clo 131 [])) [.t 30, .t 31], none⟩,
  ⟨some 29, .mv (.t 32), none⟩,
  ⟨some 33, .ex (.t 29) 0, none⟩,
  ⟨some 34, .ex (.t 29) 1, none⟩,
  ⟨some 9, .mv (.t 33), none⟩,
  ⟨some 10, .mv (.t 34), none⟩]
def a175_r8 : List AOper := [⟨some 35, .mv (.t 10), none⟩]
def a175_r9 : List AOper := [⟨some 36, .ld 2 true (.t 6), none⟩,
  ⟨some 37, .mv (.t 9), none⟩,
  ⟨some 38, .call (.c (.clo 36 [])) [.t 36, .t 37], none⟩,
  ⟨none, .st 2 (.t 6) (.t 38), none⟩]
def a175_r5 : List AOper := [⟨some 23, .mv (.t 8), none⟩,
  ⟨some 24, .bin .add (.t 23) (.c (.i .i64 1)), none⟩,
  ⟨some 8, .mv (.t 24), none⟩]
def a175_l1 : ACode := .seq (.seq (.reg a175_r4 false []) (.cond (.t 22) (.skip) (.exit 0))) (.seq (.block 1 (.seq (.reg a175_r6 true [(0, 2)]) (.seq (.reg a175_r7 false []) (.seq (.reg a175_r8 false []) (.cond (.t 35) (.reg a175_r9 false []) (.skip)))))) (.reg a175_r5 false []))
def a175_r10 : List AOper := [⟨some 39, .ld 2 true (.t 6), none⟩,
  ⟨none, .st 2 (.t 4) (.t 39), none⟩]
def a175 : AFn := ⟨[true, false], .seq (.reg a175_r0 false []) (.seq (.reg a175_r1 false []) (.seq (.reg a175_r2 false []) (.seq (.seq (.reg a175_r3 false []) (.block 0 (.loop [] a175_l1))) (.seq (.reg a175_r10 false []) (.ret))))), [.cell 4 2 true], []⟩
theorem reads175 : readFn Try.prog Try.f175 [true, false] [] [[]] = some a175 := by kernel_rfl
-- spec.l6Pages
def a176_r0 : List AOper := [⟨some 4, .box (.t 0), none⟩,
  ⟨some 8, .mv (.c (.b false)), none⟩]
def a176_r1 : List AOper := [⟨some 13, .mv (.t 2), none⟩,
  ⟨some 14, .bin .eql (.t 13) (.c (.i .i64 0)), none⟩,
  ⟨some 15, .mv (.t 14), none⟩,
  ⟨some 16, .mv (.t 1), some (15, false)⟩,
  ⟨some 17, .fa 0 (.t 4), some (15, false)⟩,
  ⟨some 18, .ld 1 false (.t 17), some (15, false)⟩,
  ⟨some 19, .len false (.t 18), some (15, false)⟩,
  ⟨some 20, .bin .sub (.t 19) (.c (.i .i64 1)), some (15, false)⟩,
  ⟨some 21, .call (.c (.clo 85 [])) [.t 16, .c (.i .i64 0), .t 20], some (15, false)⟩,
  ⟨some 22, .un .not (.t 21), some (15, false)⟩,
  ⟨some 23, .pick (.t 15) (.c (.b true)) (.t 22), none⟩]
def a176_r2 : List AOper := [⟨some 8, .mv (.c (.b false)), none⟩]
def a176_r3 : List AOper := [⟨some 24, .mv (.t 3), none⟩,
  ⟨some 25, .mv (.t 1), none⟩,
  ⟨some 26, .ia 1 (.t 24) (.t 25), none⟩,
  ⟨none, .st 1 (.t 26) (.c (.b true)), none⟩]
def a176_r4 : List AOper := [⟨some 28, .fa 0 (.t 4), none⟩,
  ⟨some 29, .ld 1 false (.t 28), none⟩,
  ⟨some 30, .mv (.t 1), none⟩,
  ⟨some 31, .ia 1 (.t 29) (.t 30), none⟩,
  ⟨some 32, .ld 1 false (.t 31), none⟩,
  ⟨some 33, .cvB (.t 32), none⟩,
  ⟨some 34, .call (.c (.clo 40 [])) [.t 33], none⟩,
  ⟨some 27, .mv (.t 34), none⟩,
  ⟨some 35, .ex (.t 27) 0, none⟩,
  ⟨some 36, .ex (.t 27) 1, none⟩,
  ⟨some 37, .ex (.t 27) 2, none⟩,
  ⟨some 9, .new [.b false, .emp, .emp, .emp, .emp], none⟩,
  ⟨none, .st 5 (.t 9) (.t 35), none⟩,
  ⟨some 10, .mv (.t 36), none⟩,
  ⟨some 11, .mv (.t 37), none⟩]
def a176_r5 : List AOper := [⟨some 12, .mv (.c (.i .i64 0)), none⟩]
def a176_r6 : List AOper := [⟨some 38, .mv (.t 12), none⟩,
  ⟨some 39, .mv (.t 10), none⟩,
  ⟨some 40, .len false (.t 39), none⟩,
  ⟨some 41, .bin .lss (.t 38) (.t 40), none⟩,
  ⟨some 42, .mv (.t 41), none⟩,
  ⟨some 43, .mv (.t 11), some (42, true)⟩,
  ⟨some 44, .pick (.t 42) (.t 43) (.c (.b false)), none⟩]
def a176_r8 : List AOper := [⟨some 47, .ld 2 true (.t 4), none⟩,
  ⟨some 48, .mv (.t 10), none⟩,
  ⟨some 49, .mv (.t 12), none⟩,
  ⟨some 50, .ia 1 (.t 48) (.t 49), none⟩,
  ⟨some 51, .ld 1 false (.t 50), none⟩,
  ⟨some 52, .mv (.t 2), none⟩,
  ⟨some 53, .bin .sub (.t 52) (.c (.i .i64 1)), none⟩,
  ⟨some 54, .mv (.t 3), none⟩,
  ⟨some 55, .call (.c (.clo 176 [])) [.t 47, .t 51, .t 53, .t 54], none⟩,
  ⟨some 56, .un .not (.t 55), none⟩]
def a176_r9 : List AOper := [⟨some 8, .mv (.c (.b false)), none⟩]
def a176_r7 : List AOper := [⟨some 45, .mv (.t 12), none⟩,
  ⟨some 46, .bin .add (.t 45) (.c (.i .i64 1)), none⟩,
  ⟨some 12, .mv (.t 46), none⟩]
def a176_l1 : ACode := .seq (.seq (.reg a176_r6 false []) (.cond (.t 44) (.skip) (.exit 0))) (.seq (.block 1 (.seq (.reg a176_r8 true []) (.cond (.t 56) (.seq (.reg a176_r9 false []) (.ret)) (.skip)))) (.reg a176_r7 false []))
def a176_r10 : List AOper := [⟨some 8, .mv (.c (.b true)), none⟩]
def a176 : AFn := ⟨[false, false, false, true], .seq (.reg a176_r0 false []) (.seq (.seq (.reg a176_r1 false []) (.cond (.t 23) (.seq (.reg a176_r2 false []) (.ret)) (.skip))) (.seq (.reg a176_r3 false []) (.seq (.reg a176_r4 false []) (.seq (.seq (.reg a176_r5 false []) (.block 0 (.loop [] a176_l1))) (.seq (.reg a176_r10 false []) (.ret)))))), [.t 8], []⟩
theorem reads176 : readFn Try.prog Try.f176 [false, false, false, true] [] [[]] = some a176 := by kernel_rfl
-- spec.l4Pack
def a177_r0 : List AOper := [⟨some 1, .box (.t 0), none⟩,
  ⟨some 2, .new [.emp, .emp], none⟩]
def a177_r1 : List AOper := [⟨some 7, .build [.emp, .emp] [], none⟩,
  ⟨some 3, .new [.emp, .emp], none⟩,
  ⟨none, .st 2 (.t 3) (.t 7), none⟩]
def a177_r2 : List AOper := [⟨some 8, .fa 0 (.t 1), none⟩,
  ⟨some 9, .ld 1 false (.t 8), none⟩,
  ⟨some 10, .len false (.t 9), none⟩,
  ⟨some 4, .mv (.t 10), none⟩]
def a177_r3 : List AOper := [⟨some 5, .mv (.c (.i .i64 0)), none⟩]
def a177_r4 : List AOper := [⟨some 11, .mv (.t 5), none⟩,
  ⟨some 12, .mv (.t 4), none⟩,
  ⟨some 13, .bin .lss (.t 11) (.t 12), none⟩]
def a177_r5 : List AOper := [⟨some 6, .mv (.c (.i .i64 2)), none⟩]
def a177_r6 : List AOper := [⟨some 14, .mv (.t 4), none⟩,
  ⟨some 15, .mv (.t 5), none⟩,
  ⟨some 16, .bin .sub (.t 14) (.t 15), none⟩,
  ⟨some 17, .bin .eql (.t 16) (.c (.i .i64 3)), none⟩]
def a177_r7 : List AOper := [⟨some 6, .mv (.c (.i .i64 3)), none⟩]
def a177_r8 : List AOper := [⟨some 18, .mv (.t 5), none⟩,
  ⟨some 19, .bin .gtr (.t 18) (.c (.i .i64 0)), none⟩]
def a177_r9 : List AOper := [⟨some 20, .fa 1 (.t 3), none⟩,
  ⟨some 21, .ld 1 false (.t 20), none⟩,
  ⟨some 22, .fa 1 (.t 1), none⟩,
  ⟨some 23, .ld 1 false (.t 22), none⟩,
  ⟨some 24, .mv (.t 5), none⟩,
  ⟨some 25, .bin .sub (.t 24) (.c (.i .i64 1)), none⟩,
  ⟨some 26, .ia 1 (.t 23) (.t 25), none⟩,
  ⟨some 27, .ld 1 false (.t 26), none⟩,
  ⟨some 28, .rowOf 1 [.i .i64 0] 1 [(0, .t 27)], none⟩,
  ⟨some 29, .ap 1 8 (.t 21) (.t 28), none⟩,
  ⟨some 30, .fa 1 (.t 3), none⟩,
  ⟨none, .st 1 (.t 30) (.t 29), none⟩]
def a177_r10 : List AOper := [⟨some 31, .fa 0 (.t 3), none⟩,
  ⟨some 32, .ld 1 false (.t 31), none⟩,
  ⟨some 33, .rowOf 5 [.b false, .emp, .emp, .emp, .emp] 0 [], none⟩,
  ⟨some 34, .fa 0 (.t 1), none⟩,
  ⟨some 35, .ld 1 false (.t 34), none⟩,
  ⟨some 36, .mv (.t 5), none⟩,
  ⟨some 37, .mv (.t 5), none⟩,
  ⟨some 38, .mv (.t 6), none⟩,
  ⟨some 39, .bin .add (.t 37) (.t 38), none⟩,
  ⟨some 40, .sl 5 (.t 35) (some (.t 36)) (some (.t 39)) none, none⟩,
  ⟨some 41, .ap 5 104 (.t 33) (.t 40), none⟩,
  ⟨some 42, .rowOf 1 [.i .i64 0] 0 [], none⟩,
  ⟨some 43, .fa 1 (.t 1), none⟩,
  ⟨some 44, .ld 1 false (.t 43), none⟩,
  ⟨some 45, .mv (.t 5), none⟩,
  ⟨some 46, .mv (.t 5), none⟩,
  ⟨some 47, .mv (.t 6), none⟩,
  ⟨some 48, .bin .add (.t 46) (.t 47), none⟩,
  ⟨some 49, .bin .sub (.t 48) (.c (.i .i64 1)), none⟩,
  ⟨some 50, .sl 1 (.t 44) (some (.t 45)) (some (.t 49)) none, none⟩,
  ⟨some 51, .ap 1 8 (.t 42) (.t 50), none⟩,
  ⟨some 52, .build [.b false, .emp, .emp, .emp, .emp] [(3, 1, .t 41), (2, 1, .t 51)], none⟩,
  ⟨some 53, .rowOf 5 [.b false, .emp, .emp, .emp, .emp] 1 [(0, .t 52)], none⟩,
  ⟨some 54, .ap 5 104 (.t 32) (.t 53), none⟩,
  ⟨some 55, .fa 0 (.t 3), none⟩,
  ⟨none, .st 1 (.t 55) (.t 54), none⟩]
def a177_r11 : List AOper := [⟨some 56, .mv (.t 5), none⟩,
  ⟨some 57, .mv (.t 6), none⟩,
  ⟨some 58, .bin .add (.t 56) (.t 57), none⟩,
  ⟨some 5, .mv (.t 58), none⟩]
def a177_l1 : ACode := .seq (.seq (.reg a177_r4 false []) (.cond (.t 13) (.skip) (.exit 0))) (.block 1 (.seq (.reg a177_r5 false []) (.seq (.seq (.reg a177_r6 false []) (.cond (.t 17) (.reg a177_r7 false []) (.skip))) (.seq (.seq (.reg a177_r8 false []) (.cond (.t 19) (.reg a177_r9 true [(1, 8)]) (.skip))) (.seq (.reg a177_r10 true [(1, 2), (2, 4), (2, 9), (1, 10), (1, 11), (2, 11), (4, 11), (9, 11), (10, 11), (2, 13), (10, 13), (11, 13), (2, 19), (10, 19), (11, 19), (1, 20), (1, 22)]) (.reg a177_r11 false []))))))
def a177_r12 : List AOper := [⟨some 59, .ld 2 true (.t 3), none⟩,
  ⟨none, .st 2 (.t 2) (.t 59), none⟩]
def a177 : AFn := ⟨[false], .seq (.reg a177_r0 false []) (.seq (.reg a177_r1 false []) (.seq (.reg a177_r2 false []) (.seq (.seq (.reg a177_r3 false []) (.block 0 (.loop [] a177_l1))) (.seq (.reg a177_r12 false []) (.ret))))), [.cell 2 2 true], []⟩
theorem reads177 : readFn Try.prog Try.f177 [false] [] [[]] = some a177 := by kernel_rfl
-- spec.l4Leaf
def a178_r0 : List AOper := [⟨some 2, .new [.emp, .emp], none⟩]
def a178_r1 : List AOper := [⟨some 7, .mv (.t 0), none⟩,
  ⟨some 8, .len false (.t 7), none⟩,
  ⟨some 3, .mv (.t 8), none⟩]
def a178_r2 : List AOper := [⟨some 9, .mv (.t 3), none⟩,
  ⟨some 10, .bin .leq (.t 9) (.c (.i .i64 4)), none⟩]
def a178_r3 : List AOper := [⟨some 11, .mv (.t 0), none⟩,
  ⟨some 12, .build [.b false, .emp, .emp, .emp, .emp] [(0, 1, .c (.b true)), (1, 1, .t 11)], none⟩,
  ⟨some 13, .rowOf 5 [.b false, .emp, .emp, .emp, .emp] 1 [(0, .t 12)], none⟩,
  ⟨some 14, .build [.emp, .emp] [(0, 1, .t 13)], none⟩,
  ⟨none, .st 2 (.t 2) (.t 14), none⟩]
def a178_r4 : List AOper := [⟨some 15, .build [.emp, .emp] [], none⟩,
  ⟨some 4, .new [.emp, .emp], none⟩,
  ⟨none, .st 2 (.t 4) (.t 15), none⟩]
def a178_r5 : List AOper := [⟨some 5, .mv (.c (.i .i64 0)), none⟩]
def a178_r6 : List AOper := [⟨some 16, .mv (.t 5), none⟩,
  ⟨some 17, .mv (.t 3), none⟩,
  ⟨some 18, .bin .lss (.t 16) (.t 17), none⟩]
def a178_r7 : List AOper := [⟨some 6, .mv (.c (.i .i64 2)), none⟩]
def a178_r8 : List AOper := [⟨some 19, .mv (.t 3), none⟩,
  ⟨some 20, .mv (.t 5), none⟩,
  ⟨some 21, .bin .sub (.t 19) (.t 20), none⟩,
  ⟨some 22, .bin .eql (.t 21) (.c (.i .i64 3)), none⟩]
def a178_r9 : List AOper := [⟨some 6, .mv (.c (.i .i64 3)), none⟩]
def a178_r10 : List AOper := [⟨some 23, .mv (.t 5), none⟩,
  ⟨some 24, .bin .gtr (.t 23) (.c (.i .i64 0)), none⟩]
def a178_r11 : List AOper := [⟨some 25, .fa 1 (.t 4), none⟩,
  ⟨some 26, .ld 1 false (.t 25), none⟩,
  ⟨some 27, .mv (.t 0), none⟩,
  ⟨some 28, .mv (.t 5), none⟩,
  ⟨some 29, .ia 2 (.t 27) (.t 28), none⟩,
  ⟨some 30, .fa 0 (.t 29), none⟩,
  ⟨some 31, .ld 1 false (.t 30), none⟩,
  ⟨some 32, .rowOf 1 [.i .i64 0] 1 [(0, .t 31)], none⟩,
  ⟨some 33, .ap 1 8 (.t 26) (.t 32), none⟩,
  ⟨some 34, .fa 1 (.t 4), none⟩,
  ⟨none, .st 1 (.t 34) (.t 33), none⟩]
def a178_r12 : List AOper := [⟨some 35, .fa 0 (.t 4), none⟩,
  ⟨some 36, .ld 1 false (.t 35), none⟩,
  ⟨some 37, .rowOf 2 [.i .i64 0, .i .i64 0] 0 [], none⟩,
  ⟨some 38, .mv (.t 0), none⟩,
  ⟨some 39, .mv (.t 5), none⟩,
  ⟨some 40, .mv (.t 5), none⟩,
  ⟨some 41, .mv (.t 6), none⟩,
  ⟨some 42, .bin .add (.t 40) (.t 41), none⟩,
  ⟨some 43, .sl 2 (.t 38) (some (.t 39)) (some (.t 42)) none, none⟩,
  ⟨some 44, .ap 2 16 (.t 37) (.t 43), none⟩,
  ⟨some 45, .build [.b false, .emp, .emp, .emp, .emp] [(0, 1, .c (.b true)), (1, 1, .t 44)], none⟩,
  ⟨some 46, .rowOf 5 [.b false, .emp, .emp, .emp, .emp] 1 [(0, .t 45)], none⟩,
  ⟨some 47, .ap 5 104 (.t 36) (.t 46), none⟩,
  ⟨some 48, .fa 0 (.t 4), none⟩,
  ⟨none, .st 1 (.t 48) (.t 47), none⟩]
def a178_r13 : List AOper := [⟨some 49, .mv (.t 5), none⟩,
  ⟨some 50, .mv (.t 6), none⟩,
  ⟨some 51, .bin .add (.t 49) (.t 50), none⟩,
  ⟨some 5, .mv (.t 51), none⟩]
def a178_l1 : ACode := .seq (.seq (.reg a178_r6 false []) (.cond (.t 18) (.skip) (.exit 0))) (.block 1 (.seq (.reg a178_r7 false []) (.seq (.seq (.reg a178_r8 false []) (.cond (.t 22) (.reg a178_r9 false []) (.skip))) (.seq (.seq (.reg a178_r10 false []) (.cond (.t 24) (.reg a178_r11 true [(1, 7)]) (.skip))) (.seq (.reg a178_r12 true [(1, 2), (2, 8), (1, 9), (1, 11)]) (.reg a178_r13 false []))))))
def a178_r14 : List AOper := [⟨some 52, .ld 2 true (.t 4), none⟩,
  ⟨none, .st 2 (.t 2) (.t 52), none⟩]
def a178 : AFn := ⟨[false], .seq (.reg a178_r0 false []) (.seq (.reg a178_r1 false []) (.seq (.seq (.reg a178_r2 false []) (.cond (.t 10) (.seq (.reg a178_r3 false []) (.ret)) (.skip))) (.seq (.reg a178_r4 false []) (.seq (.seq (.reg a178_r5 false []) (.block 0 (.loop [] a178_l1))) (.seq (.reg a178_r14 false []) (.ret)))))), [.cell 2 2 true], []⟩
theorem reads178 : readFn Try.prog Try.f178 [false] [] [[]] = some a178 := by kernel_rfl
-- spec.Shrink
def a179_r0 : List AOper := [⟨some 2, .mv (.c (.emp)), none⟩]
def a179_r1 : List AOper := [⟨some 7, .rowOf 3 [.i .i64 0, .i .i64 0, .i .i64 0] 0 [], none⟩,
  ⟨some 3, .mv (.t 7), none⟩]
def a179_r2 : List AOper := [⟨some 4, .mv (.c (.i .i64 0)), none⟩]
def a179_r3 : List AOper := [⟨some 8, .mv (.t 4), none⟩,
  ⟨some 9, .mv (.t 0), none⟩,
  ⟨some 10, .len false (.t 9), none⟩,
  ⟨some 11, .bin .lss (.t 8) (.t 10), none⟩]
def a179_r5 : List AOper := [⟨some 14, .mv (.t 0), none⟩,
  ⟨some 15, .mv (.t 4), none⟩,
  ⟨some 16, .ia 3 (.t 14) (.t 15), none⟩,
  ⟨some 17, .ld 3 true (.t 16), none⟩,
  ⟨some 5, .new [.i .i64 0, .i .i64 0, .i .i64 0], none⟩,
  ⟨none, .st 3 (.t 5) (.t 17), none⟩]
def a179_r6 : List AOper := [⟨some 18, .ld 3 true (.t 5), none⟩,
  ⟨some 19, .call (.c (.clo 123 [])) [.t 18], none⟩,
  ⟨some 20, .un .not (.t 19), none⟩,
  ⟨some 21, .mv (.t 20), none⟩,
  ⟨some 22, .fa 0 (.t 5), some (21, false)⟩,
  ⟨some 23, .ld 1 false (.t 22), some (21, false)⟩,
  ⟨some 24, .bin .eql (.t 23) (.c (.i .i64 4)), some (21, false)⟩,
  ⟨some 25, .pick (.t 21) (.c (.b true)) (.t 24), none⟩,
  ⟨some 26, .mv (.t 25), none⟩,
  ⟨some 27, .mv (.t 0), some (26, false)⟩,
  ⟨some 28, .mv (.t 4), some (26, false)⟩,
  ⟨some 29, .call (.c (.clo 186 [])) [.t 27, .t 28], some (26, false)⟩,
  ⟨some 30, .pick (.t 26) (.c (.b true)) (.t 29), none⟩]
def a179_r7 : List AOper := [⟨some 31, .mv (.t 3), none⟩,
  ⟨some 32, .fa 1 (.t 5), none⟩,
  ⟨some 33, .ld 1 false (.t 32), none⟩,
  ⟨some 34, .call (.c (.clo 187 [])) [.t 31, .t 33], none⟩,
  ⟨some 6, .mv (.t 34), none⟩]
def a179_r8 : List AOper := [⟨some 35, .mv (.t 6), none⟩,
  ⟨some 36, .bin .geq (.t 35) (.c (.i .i64 0)), none⟩,
  ⟨some 37, .mv (.t 36), none⟩,
  ⟨some 38, .mv (.t 3), some (37, true)⟩,
  ⟨some 39, .mv (.t 6), some (37, true)⟩,
  ⟨some 40, .ia 3 (.t 38) (.t 39), some (37, true)⟩,
  ⟨some 41, .fa 0 (.t 40), some (37, true)⟩,
  ⟨some 42, .ld 1 false (.t 41), some (37, true)⟩,
  ⟨some 43, .bin .eql (.t 42) (.c (.i .i64 1)), some (37, true)⟩,
  ⟨some 44, .pick (.t 37) (.t 43) (.c (.b false)), none⟩,
  ⟨some 45, .mv (.t 44), none⟩,
  ⟨some 46, .fa 0 (.t 5), some (45, true)⟩,
  ⟨some 47, .ld 1 false (.t 46), some (45, true)⟩,
  ⟨some 48, .bin .eql (.t 47) (.c (.i .i64 3)), some (45, true)⟩,
  ⟨some 49, .pick (.t 45) (.t 48) (.c (.b false)), none⟩]
def a179_r9 : List AOper := [⟨some 50, .mv (.t 3), none⟩,
  ⟨some 51, .mv (.t 6), none⟩,
  ⟨some 52, .mv (.t 3), none⟩,
  ⟨some 53, .mv (.t 6), none⟩,
  ⟨some 54, .ia 3 (.t 52) (.t 53), none⟩,
  ⟨some 55, .fa 2 (.t 54), none⟩,
  ⟨some 56, .ld 1 false (.t 55), none⟩,
  ⟨some 57, .fa 2 (.t 5), none⟩,
  ⟨some 58, .ld 1 false (.t 57), none⟩,
  ⟨some 59, .bin .add (.t 56) (.t 58), none⟩,
  ⟨some 60, .call (.c (.clo 161 [])) [.t 59], none⟩,
  ⟨some 61, .ia 3 (.t 50) (.t 51), none⟩,
  ⟨some 62, .fa 2 (.t 61), none⟩,
  ⟨none, .st 1 (.t 62) (.t 60), none⟩]
def a179_r10 : List AOper := [⟨some 63, .mv (.t 3), none⟩,
  ⟨some 64, .ld 3 true (.t 5), none⟩,
  ⟨some 65, .rowOf 3 [.i .i64 0, .i .i64 0, .i .i64 0] 1 [(0, .t 64)], none⟩,
  ⟨some 66, .ap 3 24 (.t 63) (.t 65), none⟩,
  ⟨some 3, .mv (.t 66), none⟩]
def a179_r4 : List AOper := [⟨some 12, .mv (.t 4), none⟩,
  ⟨some 13, .bin .add (.t 12) (.c (.i .i64 1)), none⟩,
  ⟨some 4, .mv (.t 13), none⟩]
def a179_l1 : ACode := .seq (.seq (.reg a179_r3 false []) (.cond (.t 11) (.skip) (.exit 0))) (.seq (.block 1 (.seq (.reg a179_r5 false []) (.seq (.seq (.reg a179_r6 false []) (.cond (.t 30) (.exit 1) (.skip))) (.seq (.reg a179_r7 false []) (.seq (.seq (.reg a179_r8 false []) (.cond (.t 49) (.seq (.reg a179_r9 true []) (.exit 1)) (.skip))) (.reg a179_r10 false [])))))) (.reg a179_r4 false []))
def a179_r11 : List AOper := [⟨some 67, .mv (.t 3), none⟩,
  ⟨some 2, .mv (.t 67), none⟩]
def a179 : AFn := ⟨[false], .seq (.reg a179_r0 false []) (.seq (.reg a179_r1 false []) (.seq (.seq (.reg a179_r2 false []) (.block 0 (.loop [] a179_l1))) (.seq (.reg a179_r11 false []) (.ret)))), [.t 2], []⟩
theorem reads179 : readFn Try.prog Try.f179 [false] [] [[]] = some a179 := by kernel_rfl
-- spec.l4Most
def a180_r0 : List AOper := [⟨some 2, .box (.t 0), none⟩,
  ⟨some 4, .mv (.c (.i .i64 0)), none⟩]
def a180_r1 : List AOper := [⟨some 5, .mv (.c (.i .i64 0)), none⟩,
  ⟨some 6, .mv (.c (.i .i64 (-1))), none⟩]
def a180_r2 : List AOper := [⟨some 7, .mv (.c (.i .i64 0)), none⟩]
def a180_r3 : List AOper := [⟨some 10, .mv (.t 7), none⟩,
  ⟨some 11, .fa 0 (.t 2), none⟩,
  ⟨some 12, .ld 1 false (.t 11), none⟩,
  ⟨some 13, .len false (.t 12), none⟩,
  ⟨some 14, .bin .lss (.t 10) (.t 13), none⟩]
def a180_r5 : List AOper := [⟨some 18, .ld 2 true (.t 2), none⟩,
  ⟨some 19, .mv (.t 1), none⟩,
  ⟨some 20, .mv (.t 7), none⟩,
  ⟨some 21, .call (.c (.clo 181 [])) [.t 18, .t 19, .t 20], none⟩,
  ⟨some 17, .mv (.t 21), none⟩,
  ⟨some 22, .ex (.t 17) 0, none⟩,
  ⟨some 23, .ex (.t 17) 1, none⟩,
  ⟨some 8, .mv (.t 22), none⟩,
  ⟨some 9, .mv (.t 23), none⟩]
def a180_r6 : List AOper := [⟨some 24, .mv (.t 8), none⟩,
  ⟨some 25, .len false (.t 24), none⟩,
  ⟨some 26, .mv (.t 6), none⟩,
  ⟨some 27, .bin .gtr (.t 25) (.t 26), none⟩]
def a180_r7 : List AOper := [⟨some 28, .mv (.t 7), none⟩,
  ⟨some 5, .mv (.t 28), none⟩]
def a180_r8 : List AOper := [⟨some 29, .mv (.t 8), none⟩,
  ⟨some 30, .len false (.t 29), none⟩,
  ⟨some 6, .mv (.t 30), none⟩]
def a180_r4 : List AOper := [⟨some 15, .mv (.t 7), none⟩,
  ⟨some 16, .bin .add (.t 15) (.c (.i .i64 1)), none⟩,
  ⟨some 7, .mv (.t 16), none⟩]
def a180_l1 : ACode := .seq (.seq (.reg a180_r3 false []) (.cond (.t 14) (.skip) (.exit 0))) (.seq (.block 1 (.seq (.reg a180_r5 false []) (.seq (.reg a180_r6 false []) (.cond (.t 27) (.seq (.reg a180_r7 false []) (.reg a180_r8 false [])) (.skip))))) (.reg a180_r4 false []))
def a180_r9 : List AOper := [⟨some 31, .mv (.t 5), none⟩,
  ⟨some 4, .mv (.t 31), none⟩]
def a180 : AFn := ⟨[false, false], .seq (.reg a180_r0 false []) (.seq (.reg a180_r1 false []) (.seq (.seq (.reg a180_r2 false []) (.block 0 (.loop [] a180_l1))) (.seq (.reg a180_r9 false []) (.ret)))), [.t 4], []⟩
theorem reads180 : readFn Try.prog Try.f180 [false, false] [] [[]] = some a180 := by kernel_rfl
-- spec.l4Split
def a181_r0 : List AOper := [⟨some 3, .box (.t 0), none⟩,
  ⟨some 6, .mv (.c (.emp)), none⟩,
  ⟨some 7, .mv (.c (.emp)), none⟩]
def a181_r1 : List AOper := [⟨some 11, .rowOf 3 [.i .i64 0, .i .i64 0, .i .i64 0] 0 [], none⟩,
  ⟨some 12, .rowOf 3 [.i .i64 0, .i .i64 0, .i .i64 0] 0 [], none⟩,
  ⟨some 8, .mv (.t 11), none⟩,
  ⟨some 9, .mv (.t 12), none⟩]
def a181_r2 : List AOper := [⟨some 10, .mv (.c (.i .i64 0)), none⟩]
def a181_r3 : List AOper := [⟨some 13, .mv (.t 10), none⟩,
  ⟨some 14, .mv (.t 1), none⟩,
  ⟨some 15, .len false (.t 14), none⟩,
  ⟨some 16, .bin .lss (.t 13) (.t 15), none⟩]
def a181_r5 : List AOper := [⟨some 19, .ld 2 true (.t 3), none⟩,
  ⟨some 20, .mv (.t 1), none⟩,
  ⟨some 21, .mv (.t 10), none⟩,
  ⟨some 22, .ia 3 (.t 20) (.t 21), none⟩,
  ⟨some 23, .fa 1 (.t 22), none⟩,
  ⟨some 24, .ld 1 false (.t 23), none⟩,
  ⟨some 25, .call (.c (.clo 188 [])) [.t 19, .t 24], none⟩,
  ⟨some 26, .mv (.t 2), none⟩,
  ⟨some 27, .bin .eql (.t 25) (.t 26), none⟩]
def a181_r6 : List AOper := [⟨some 28, .mv (.t 8), none⟩,
  ⟨some 29, .mv (.t 1), none⟩,
  ⟨some 30, .mv (.t 10), none⟩,
  ⟨some 31, .ia 3 (.t 29) (.t 30), none⟩,
  ⟨some 32, .ld 3 true (.t 31), none⟩,
  ⟨some 33, .rowOf 3 [.i .i64 0, .i .i64 0, .i .i64 0] 1 [(0, .t 32)], none⟩,
  ⟨some 34, .ap 3 24 (.t 28) (.t 33), none⟩,
  ⟨some 8, .mv (.t 34), none⟩]
def a181_r7 : List AOper := [⟨some 35, .mv (.t 9), none⟩,
  ⟨some 36, .mv (.t 1), none⟩,
  ⟨some 37, .mv (.t 10), none⟩,
  ⟨some 38, .ia 3 (.t 36) (.t 37), none⟩,
  ⟨some 39, .ld 3 true (.t 38), none⟩,
  ⟨some 40, .rowOf 3 [.i .i64 0, .i .i64 0, .i .i64 0] 1 [(0, .t 39)], none⟩,
  ⟨some 41, .ap 3 24 (.t 35) (.t 40), none⟩,
  ⟨some 9, .mv (.t 41), none⟩]
def a181_r4 : List AOper := [⟨some 17, .mv (.t 10), none⟩,
  ⟨some 18, .bin .add (.t 17) (.c (.i .i64 1)), none⟩,
  ⟨some 10, .mv (.t 18), none⟩]
def a181_l1 : ACode := .seq (.seq (.reg a181_r3 false []) (.cond (.t 16) (.skip) (.exit 0))) (.seq (.block 1 (.seq (.reg a181_r5 true []) (.cond (.t 27) (.reg a181_r6 false []) (.reg a181_r7 false [])))) (.reg a181_r4 false []))
def a181_r8 : List AOper := [⟨some 42, .mv (.t 8), none⟩,
  ⟨some 43, .mv (.t 9), none⟩,
  ⟨some 6, .mv (.t 42), none⟩,
  ⟨some 7, .mv (.t 43), none⟩]
def a181 : AFn := ⟨[false, false, false], .seq (.reg a181_r0 false []) (.seq (.reg a181_r1 false []) (.seq (.seq (.reg a181_r2 false []) (.block 0 (.loop [] a181_l1))) (.seq (.reg a181_r8 false []) (.ret)))), [.t 6, .t 7], []⟩
theorem reads181 : readFn Try.prog Try.f181 [false, false, false] [] [[]] = some a181 := by kernel_rfl
-- spec.l4Put
def a182_r0 : List AOper := [⟨some 3, .box (.t 0), none⟩,
  ⟨some 5, .box (.t 2), none⟩,
  ⟨some 6, .new [.emp, .emp], none⟩]
def a182_r1 : List AOper := [⟨some 8, .rowOf 5 [.b false, .emp, .emp, .emp, .emp] 0 [], none⟩,
  ⟨some 9, .fa 0 (.t 3), none⟩,
  ⟨some 10, .ld 1 false (.t 9), none⟩,
  ⟨some 11, .mv (.t 1), none⟩,
  ⟨some 12, .sl 5 (.t 10) none (some (.t 11)) none, none⟩,
  ⟨some 13, .ap 5 104 (.t 8) (.t 12), none⟩,
  ⟨some 14, .rowOf 1 [.i .i64 0] 0 [], none⟩,
  ⟨some 15, .fa 1 (.t 3), none⟩,
  ⟨some 16, .ld 1 false (.t 15), none⟩,
  ⟨some 17, .mv (.t 1), none⟩,
  ⟨some 18, .sl 1 (.t 16) none (some (.t 17)) none, none⟩,
  ⟨some 19, .ap 1 8 (.t 14) (.t 18), none⟩,
  ⟨some 20, .build [.emp, .emp] [(0, 1, .t 13), (1, 1, .t 19)], none⟩,
  ⟨some 7, .new [.emp, .emp], none⟩,
  ⟨none, .st 2 (.t 7) (.t 20), none⟩]
def a182_r2 : List AOper := [⟨some 21, .fa 0 (.t 7), none⟩,
  ⟨some 22, .ld 1 false (.t 21), none⟩,
  ⟨some 23, .fa 0 (.t 5), none⟩,
  ⟨some 24, .ld 1 false (.t 23), none⟩,
  ⟨some 25, .ap 5 104 (.t 22) (.t 24), none⟩,
  ⟨some 26, .fa 0 (.t 3), none⟩,
  ⟨some 27, .ld 1 false (.t 26), none⟩,
  ⟨some 28, .mv (.t 1), none⟩,
  ⟨some 29, .bin .add (.t 28) (.c (.i .i64 1)), none⟩,
  ⟨some 30, .sl 5 (.t 27) (some (.t 29)) none none, none⟩,
  ⟨some 31, .ap 5 104 (.t 25) (.t 30), none⟩,
  ⟨some 32, .fa 0 (.t 7), none⟩,
  ⟨none, .st 1 (.t 32) (.t 31), none⟩]
def a182_r3 : List AOper := [⟨some 33, .fa 1 (.t 7), none⟩,
  ⟨some 34, .ld 1 false (.t 33), none⟩,
  ⟨some 35, .fa 1 (.t 5), none⟩,
  ⟨some 36, .ld 1 false (.t 35), none⟩,
  ⟨some 37, .ap 1 8 (.t 34) (.t 36), none⟩,
  ⟨some 38, .fa 1 (.t 3), none⟩,
  ⟨some 39, .ld 1 false (.t 38), none⟩,
  ⟨some 40, .mv (.t 1), none⟩,
  ⟨some 41, .sl 1 (.t 39) (some (.t 40)) none none, none⟩,
  ⟨some 42, .ap 1 8 (.t 37) (.t 41), none⟩,
  ⟨some 43, .fa 1 (.t 7), none⟩,
  ⟨none, .st 1 (.t 43) (.t 42), none⟩]
def a182_r4 : List AOper := [⟨some 44, .ld 2 true (.t 7), none⟩,
  ⟨none, .st 2 (.t 6) (.t 44), none⟩]
def a182 : AFn := ⟨[false, false, false], .seq (.reg a182_r0 false []) (.seq (.reg a182_r1 true [(0, 2), (0, 4), (0, 6), (2, 6), (4, 6), (5, 6), (0, 8), (5, 8), (6, 8), (0, 10), (5, 10), (6, 10), (0, 13), (2, 13), (4, 13), (5, 13), (6, 13), (8, 13), (10, 13), (11, 13)]) (.seq (.reg a182_r2 true [(4, 6), (4, 9)]) (.seq (.reg a182_r3 true [(4, 6), (4, 8)]) (.seq (.reg a182_r4 false []) (.ret))))), [.cell 6 2 true], []⟩
theorem reads182 : readFn Try.prog Try.f182 [false, false, false] [] [] = some a182 := by kernel_rfl
-- spec.l4Down
def a183_r0 : List AOper := [⟨some 2, .box (.t 0), none⟩,
  ⟨some 4, .new [.emp, .emp], none⟩]
def a183_r1 : List AOper := [⟨some 10, .build [.emp, .emp] [], none⟩,
  ⟨some 5, .new [.emp, .emp], none⟩,
  ⟨none, .st 2 (.t 5) (.t 10), none⟩]
def a183_r2 : List AOper := [⟨some 6, .mv (.c (.i .i64 0)), none⟩]
def a183_r3 : List AOper := [⟨some 11, .mv (.t 6), none⟩,
  ⟨some 12, .fa 0 (.t 2), none⟩,
  ⟨some 13, .ld 1 false (.t 12), none⟩,
  ⟨some 14, .len false (.t 13), none⟩,
  ⟨some 15, .bin .lss (.t 11) (.t 14), none⟩]
def a183_r5 : List AOper := [⟨some 19, .ld 2 true (.t 2), none⟩,
  ⟨some 20, .mv (.t 1), none⟩,
  ⟨some 21, .mv (.t 6), none⟩,
  ⟨some 22, .call (.c (.clo 181 [])) [.t 19, .t 20, .t 21], none⟩,
  ⟨some 18, .mv (.t 22), none⟩,
  ⟨some 23, .ex (.t 18) 0, none⟩,
  ⟨some 24, .ex (.t 18) 1, none⟩,
  ⟨some 7, .mv (.t 23), none⟩,
  ⟨some 8, .mv (.t 24), none⟩]
def a183_r6 : List AOper := [⟨some 25, .fa 0 (.t 2), none⟩,
  ⟨some 26, .ld 1 false (.t 25), none⟩,
  ⟨some 27, .mv (.t 6), none⟩,
  ⟨some 28, .ia 5 (.t 26) (.t 27), none⟩,
  ⟨some 29, .ld 5 true (.t 28), none⟩,
  ⟨some 30, .rowOf 5 [.b false, .emp, .emp, .emp, .emp] 1 [(0, .t 29)], none⟩,
  ⟨some 31, .build [.emp, .emp] [(0, 1, .t 30)], none⟩,
  ⟨some 9, .new [.emp, .emp], none⟩,
  ⟨none, .st 2 (.t 9) (.t 31), none⟩]
def a183_r7 : List AOper := [⟨some 32, .mv (.t 7), none⟩,
  ⟨some 33, .len false (.t 32), none⟩,
  ⟨some 34, .bin .gtr (.t 33) (.c (.i .i64 0)), none⟩]
def a183_r8 : List AOper := [⟨some 35, .fa 0 (.t 2), none⟩,
  ⟨some 36, .ld 1 false (.t 35), none⟩,
  ⟨some 37, .mv (.t 6), none⟩,
  ⟨some 38, .ia 5 (.t 36) (.t 37), none⟩,
  ⟨some 39, .ld 5 true (.t 38), none⟩,
  ⟨some 40, .mv (.t 7), none⟩,
  ⟨some 41, .call (.c (.clo 170 [])) [.t 39, .t 40], none⟩,
  ⟨none, .st 2 (.t 9) (.t 41), none⟩]
def a183_r9 : List AOper := [⟨some 42, .mv (.t 6), none⟩,
  ⟨some 43, .bin .gtr (.t 42) (.c (.i .i64 0)), none⟩]
def a183_r10 : List AOper := [⟨some 44, .fa 1 (.t 5), none⟩,
  ⟨some 45, .ld 1 false (.t 44), none⟩,
  ⟨some 46, .fa 1 (.t 2), none⟩,
  ⟨some 47, .ld 1 false (.t 46), none⟩,
  ⟨some 48, .mv (.t 6), none⟩,
  ⟨some 49, .bin .sub (.t 48) (.c (.i .i64 1)), none⟩,
  ⟨some 50, .ia 1 (.t 47) (.t 49), none⟩,
  ⟨some 51, .ld 1 false (.t 50), none⟩,
  ⟨some 52, .rowOf 1 [.i .i64 0] 1 [(0, .t 51)], none⟩,
  ⟨some 53, .ap 1 8 (.t 45) (.t 52), none⟩,
  ⟨some 54, .fa 1 (.t 5), none⟩,
  ⟨none, .st 1 (.t 54) (.t 53), none⟩]
def a183_r11 : List AOper := [⟨some 55, .fa 0 (.t 5), none⟩,
  ⟨some 56, .ld 1 false (.t 55), none⟩,
  ⟨some 57, .fa 0 (.t 9), none⟩,
  ⟨some 58, .ld 1 false (.t 57), none⟩,
  ⟨some 59, .ap 5 104 (.t 56) (.t 58), none⟩,
  ⟨some 60, .fa 0 (.t 5), none⟩,
  ⟨none, .st 1 (.t 60) (.t 59), none⟩]
def a183_r12 : List AOper := [⟨some 61, .fa 1 (.t 5), none⟩,
  ⟨some 62, .ld 1 false (.t 61), none⟩,
  ⟨some 63, .fa 1 (.t 9), none⟩,
  ⟨some 64, .ld 1 false (.t 63), none⟩,
  ⟨some 65, .ap 1 8 (.t 62) (.t 64), none⟩,
  ⟨some 66, .fa 1 (.t 5), none⟩,
  ⟨none, .st 1 (.t 66) (.t 65), none⟩]
def a183_r4 : List AOper := [⟨some 16, .mv (.t 6), none⟩,
  ⟨some 17, .bin .add (.t 16) (.c (.i .i64 1)), none⟩,
  ⟨some 6, .mv (.t 17), none⟩]
def a183_l1 : ACode := .seq (.seq (.reg a183_r3 false []) (.cond (.t 15) (.skip) (.exit 0))) (.seq (.block 1 (.seq (.reg a183_r5 false []) (.seq (.reg a183_r6 false []) (.seq (.seq (.reg a183_r7 false []) (.cond (.t 34) (.reg a183_r8 false []) (.skip))) (.seq (.seq (.reg a183_r9 false []) (.cond (.t 43) (.reg a183_r10 true [(1, 8)]) (.skip))) (.seq (.reg a183_r11 false []) (.reg a183_r12 false []))))))) (.reg a183_r4 false []))
def a183_r13 : List AOper := [⟨some 67, .ld 2 true (.t 5), none⟩,
  ⟨none, .st 2 (.t 4) (.t 67), none⟩]
def a183 : AFn := ⟨[false, false], .seq (.reg a183_r0 false []) (.seq (.reg a183_r1 false []) (.seq (.seq (.reg a183_r2 false []) (.block 0 (.loop [] a183_l1))) (.seq (.reg a183_r13 false []) (.ret)))), [.cell 4 2 true], []⟩
theorem reads183 : readFn Try.prog Try.f183 [false, false] [] [[]] = some a183 := by kernel_rfl
-- spec.DiskNew
def a185_r0 : List AOper := [⟨some 1, .box (.t 0), none⟩,
  ⟨some 2, .new [.emp, .emp], none⟩,
  ⟨some 3, .mv (.c (.b false)), none⟩]
def a185_r1 : List AOper := [⟨some 7, .mk 1 16 [.s ByteArray.empty] (.c (.i .i64 200)) (.c (.i .i64 200)), none⟩,
  ⟨some 8, .mk 2 16 [.i .i64 0, .i .i64 0] (.c (.i .i64 2)) (.c (.i .i64 2)), none⟩,
  ⟨some 9, .build [.emp, .emp] [(0, 1, .t 7), (1, 1, .t 8)], none⟩,
  ⟨some 4, .new [.emp, .emp], none⟩,
  ⟨none, .st 2 (.t 4) (.t 9), none⟩]
def a185_r2 : List AOper := [⟨some 11, .ld 2 true (.t 4), none⟩,
  ⟨some 12, .ld 5 true (.t 1), none⟩,
  ⟨some 13, .call (.c (.clo 131 [])) [.t 11, .t 12], none⟩,
  ⟨some 10, .mv (.t 13), none⟩,
  ⟨some 14, .ex (.t 10) 0, none⟩,
  ⟨some 15, .ex (.t 10) 1, none⟩,
  ⟨some 5, .mv (.t 14), none⟩,
  ⟨some 6, .mv (.t 15), none⟩]
def a185_r3 : List AOper := [⟨some 16, .mv (.t 6), none⟩,
  ⟨some 17, .un .not (.t 16), none⟩]
def a185_r4 : List AOper := [⟨some 18, .build [.emp, .emp] [], none⟩,
  ⟨none, .st 2 (.t 2) (.t 18), none⟩,
  ⟨some 3, .mv (.c (.b false)), none⟩]
def a185_r5 : List AOper := [⟨some 19, .ld 2 true (.t 4), none⟩,
  ⟨some 20, .mv (.t 5), none⟩,
  ⟨some 21, .call (.c (.clo 36 [])) [.t 19, .t 20], none⟩,
  ⟨none, .st 2 (.t 2) (.t 21), none⟩,
  ⟨some 3, .mv (.c (.b true)), none⟩]
def a185 : AFn := ⟨[false], .seq (.reg a185_r0 false []) (.seq (.reg a185_r1 true [(0, 1), (0, 3), (1, 3)]) (.seq (.reg a185_r2 false []) (.seq (.seq (.reg a185_r3 false []) (.cond (.t 17) (.seq (.reg a185_r4 false []) (.ret)) (.skip))) (.seq (.reg a185_r5 false []) (.ret))))), [.cell 2 2 true, .t 3], []⟩
theorem reads185 : readFn Try.prog Try.f185 [false] [] [] = some a185 := by kernel_rfl
-- spec.l1Over
def a186_r0 : List AOper := [⟨some 4, .mv (.c (.b false)), none⟩]
def a186_r1 : List AOper := [⟨some 6, .mv (.t 1), none⟩,
  ⟨some 7, .bin .add (.t 6) (.c (.i .i64 1)), none⟩,
  ⟨some 5, .mv (.t 7), none⟩]
def a186_r2 : List AOper := [⟨some 8, .mv (.t 5), none⟩,
  ⟨some 9, .mv (.t 0), none⟩,
  ⟨some 10, .len false (.t 9), none⟩,
  ⟨some 11, .bin .lss (.t 8) (.t 10), none⟩]
def a186_r4 : List AOper := [⟨some 14, .mv (.t 0), none⟩,
  ⟨some 15, .mv (.t 5), none⟩,
  ⟨some 16, .ia 3 (.t 14) (.t 15), none⟩,
  ⟨some 17, .ld 3 true (.t 16), none⟩,
  ⟨some 18, .call (.c (.clo 123 [])) [.t 17], none⟩,
  ⟨some 19, .mv (.t 18), none⟩,
  ⟨some 20, .mv (.t 0), some (19, true)⟩,
  ⟨some 21, .mv (.t 5), some (19, true)⟩,
  ⟨some 22, .ia 3 (.t 20) (.t 21), some (19, true)⟩,
  ⟨some 23, .fa 1 (.t 22), some (19, true)⟩,
  ⟨some 24, .ld 1 false (.t 23), some (19, true)⟩,
  ⟨some 25, .mv (.t 0), some (19, true)⟩,
  ⟨some 26, .mv (.t 1), some (19, true)⟩,
  ⟨some 27, .ia 3 (.t 25) (.t 26), some (19, true)⟩,
  ⟨some 28, .fa 1 (.t 27), some (19, true)⟩,
  ⟨some 29, .ld 1 false (.t 28), some (19, true)⟩,
  ⟨some 30, .bin .eql (.t 24) (.t 29), some (19, true)⟩,
  ⟨some 31, .pick (.t 19) (.t 30) (.c (.b false)), none⟩,
  ⟨some 32, .mv (.t 31), none⟩,
  ⟨some 33, .mv (.t 0), some (32, true)⟩,
  ⟨some 34, .mv (.t 5), some (32, true)⟩,
  ⟨some 35, .ia 3 (.t 33) (.t 34), some (32, true)⟩,
  ⟨some 36, .fa 0 (.t 35), some (32, true)⟩,
  ⟨some 37, .ld 1 false (.t 36), some (32, true)⟩,
  ⟨some 38, .bin .eql (.t 37) (.c (.i .i64 1)), some (32, true)⟩,
  ⟨some 39, .mv (.t 38), some (32, true)⟩,
  ⟨some 40, .mv (.t 0), some (39, false)⟩,
  ⟨some 41, .mv (.t 5), some (39, false)⟩,
  ⟨some 42, .ia 3 (.t 40) (.t 41), some (39, false)⟩,
  ⟨some 43, .fa 0 (.t 42), some (39, false)⟩,
  ⟨some 44, .ld 1 false (.t 43), some (39, false)⟩,
  ⟨some 45, .bin .eql (.t 44) (.c (.i .i64 2)), some (39, false)⟩,
  ⟨some 46, .pick (.t 39) (.c (.b true)) (.t 45), some (32, true)⟩,
  ⟨some 47, .pick (.t 32) (.t 46) (.c (.b false)), none⟩]
def a186_r5 : List AOper := [⟨some 4, .mv (.c (.b true)), none⟩]
def a186_r3 : List AOper := [⟨some 12, .mv (.t 5), none⟩,
  ⟨some 13, .bin .add (.t 12) (.c (.i .i64 1)), none⟩,
  ⟨some 5, .mv (.t 13), none⟩]
def a186_l1 : ACode := .seq (.seq (.reg a186_r2 false []) (.cond (.t 11) (.skip) (.exit 0))) (.seq (.block 1 (.seq (.reg a186_r4 true []) (.cond (.t 47) (.seq (.reg a186_r5 false []) (.ret)) (.skip)))) (.reg a186_r3 false []))
def a186_r6 : List AOper := [⟨some 4, .mv (.c (.b false)), none⟩]
def a186 : AFn := ⟨[false, false], .seq (.reg a186_r0 false []) (.seq (.seq (.reg a186_r1 false []) (.block 0 (.loop [] a186_l1))) (.seq (.reg a186_r6 false []) (.ret))), [.t 4], []⟩
theorem reads186 : readFn Try.prog Try.f186 [false, false] [] [[]] = some a186 := by kernel_rfl
-- spec.l1First
def a187_r0 : List AOper := [⟨some 4, .mv (.c (.i .i64 0)), none⟩]
def a187_r1 : List AOper := [⟨some 5, .mv (.c (.i .i64 0)), none⟩]
def a187_r2 : List AOper := [⟨some 6, .mv (.t 5), none⟩,
  ⟨some 7, .mv (.t 0), none⟩,
  ⟨some 8, .len false (.t 7), none⟩,
  ⟨some 9, .bin .lss (.t 6) (.t 8), none⟩]
def a187_r4 : List AOper := [⟨some 12, .mv (.t 0), none⟩,
  ⟨some 13, .mv (.t 5), none⟩,
  ⟨some 14, .ia 3 (.t 12) (.t 13), none⟩,
  ⟨some 15, .fa 1 (.t 14), none⟩,
  ⟨some 16, .ld 1 false (.t 15), none⟩,
  ⟨some 17, .mv (.t 1), none⟩,
  ⟨some 18, .bin .eql (.t 16) (.t 17), none⟩]
def a187_r5 : List AOper := [⟨some 19, .mv (.t 5), none⟩,
  ⟨some 4, .mv (.t 19), none⟩]
def a187_r3 : List AOper := [⟨some 10, .mv (.t 5), none⟩,
  ⟨some 11, .bin .add (.t 10) (.c (.i .i64 1)), none⟩,
  ⟨some 5, .mv (.t 11), none⟩]
def a187_l1 : ACode := .seq (.seq (.reg a187_r2 false []) (.cond (.t 9) (.skip) (.exit 0))) (.seq (.block 1 (.seq (.reg a187_r4 false []) (.cond (.t 18) (.seq (.reg a187_r5 false []) (.ret)) (.skip)))) (.reg a187_r3 false []))
def a187_r6 : List AOper := [⟨some 4, .mv (.c (.i .i64 (-1))), none⟩]
def a187 : AFn := ⟨[false, false], .seq (.reg a187_r0 false []) (.seq (.seq (.reg a187_r1 false []) (.block 0 (.loop [] a187_l1))) (.seq (.reg a187_r6 false []) (.ret))), [.t 4], []⟩
theorem reads187 : readFn Try.prog Try.f187 [false, false] [] [[]] = some a187 := by kernel_rfl
-- spec.l4At
def a188_r0 : List AOper := [⟨some 2, .box (.t 0), none⟩,
  ⟨some 4, .mv (.c (.i .i64 0)), none⟩]
def a188_r1 : List AOper := [⟨some 5, .mv (.c (.i .i64 0)), none⟩]
def a188_r2 : List AOper := [⟨some 6, .mv (.t 5), none⟩,
  ⟨some 7, .fa 1 (.t 2), none⟩,
  ⟨some 8, .ld 1 false (.t 7), none⟩,
  ⟨some 9, .len false (.t 8), none⟩,
  ⟨some 10, .bin .lss (.t 6) (.t 9), none⟩,
  ⟨some 11, .mv (.t 10), none⟩,
  ⟨some 12, .fa 1 (.t 2), some (11, true)⟩,
  ⟨some 13, .ld 1 false (.t 12), some (11, true)⟩,
  ⟨some 14, .mv (.t 5), some (11, true)⟩,
  ⟨some 15, .ia 1 (.t 13) (.t 14), some (11, true)⟩,
  ⟨some 16, .ld 1 false (.t 15), some (11, true)⟩,
  ⟨some 17, .mv (.t 1), some (11, true)⟩,
  ⟨some 18, .bin .leq (.t 16) (.t 17), some (11, true)⟩,
  ⟨some 19, .pick (.t 11) (.t 18) (.c (.b false)), none⟩]
def a188_r3 : List AOper := [⟨some 20, .mv (.t 5), none⟩,
  ⟨some 21, .bin .add (.t 20) (.c (.i .i64 1)), none⟩,
  ⟨some 5, .mv (.t 21), none⟩]
def a188_l1 : ACode := .seq (.seq (.reg a188_r2 false []) (.cond (.t 19) (.skip) (.exit 0))) (.block 1 (.reg a188_r3 false []))
def a188_r4 : List AOper := [⟨some 22, .mv (.t 5), none⟩,
  ⟨some 4, .mv (.t 22), none⟩]
def a188 : AFn := ⟨[false, false], .seq (.reg a188_r0 false []) (.seq (.reg a188_r1 false []) (.seq (.block 0 (.loop [] a188_l1)) (.seq (.reg a188_r4 false []) (.ret)))), [.t 4], []⟩
theorem reads188 : readFn Try.prog Try.f188 [false, false] [] [[]] = some a188 := by kernel_rfl
end Go.Proofs.Ytjjocahgbmibeaa
