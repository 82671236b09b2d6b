/- Code of the program's functions as code of the machine, and that it is theirs. Printed by a program of this session. -/
import Derived.Test.YtjjocahgbmibeaaGreatEngB
import Derived.Test.YtjjocahgbmibeaaGreatProg
import Derived.KernelRfl
namespace Go.Proofs.YtjjocahgbmibeaaGreat
open Go.Eng
-- laws.FnInject
def a4_r0 : List AOper := [⟨some 2, .mv (.c (.b false)), none⟩]
def a4_r1 : List AOper := [⟨some 9, .mv (.t 0), none⟩,
  ⟨some 10, .call (.c (.clo 8 [])) [.t 9], none⟩]
def a4_r2 : List AOper := [⟨some 2, .mv (.c (.b true)), none⟩]
def a4_r3 : List AOper := [⟨some 12, .mv (.t 0), none⟩,
  ⟨some 13, .call (.c (.clo 19 [])) [.t 12], none⟩,
  ⟨some 11, .mv (.t 13), none⟩,
  ⟨some 14, .ex (.t 11) 0, none⟩,
  ⟨some 15, .ex (.t 11) 1, none⟩,
  ⟨some 3, .new [.b false, .emp, .emp, .emp, .emp], none⟩,
  ⟨some 4, .new [.i .i64 0, .i .i64 0, .i .i64 0], none⟩,
  ⟨none, .st 5 (.t 3) (.t 14), none⟩,
  ⟨none, .st 3 (.t 4) (.t 15), none⟩]
def a4_r4 : List AOper := [⟨some 16, .ld 5 true (.t 3), none⟩,
  ⟨some 17, .ld 3 true (.t 4), none⟩,
  ⟨some 18, .call (.c (.clo 12 [])) [.t 16, .t 17], none⟩,
  ⟨some 5, .new [.b false, .emp, .emp, .emp, .emp], none⟩,
  ⟨none, .st 5 (.t 5) (.t 18), none⟩]
def a4_r5 : List AOper := [⟨some 19, .ld 5 true (.t 5), none⟩,
  ⟨some 20, .ld 5 true (.t 3), none⟩,
  ⟨some 21, .ld 3 true (.t 4), none⟩,
  ⟨some 22, .call (.c (.clo 16 [])) [.t 20, .t 21], none⟩,
  ⟨some 23, .call (.c (.clo 20 [])) [.t 19, .t 22], none⟩,
  ⟨some 24, .un .not (.t 23), none⟩,
  ⟨some 25, .mv (.t 24), none⟩,
  ⟨some 26, .ld 5 true (.t 3), some (25, false)⟩,
  ⟨some 27, .call (.c (.clo 18 [])) [.t 26], some (25, false)⟩,
  ⟨some 28, .ld 5 true (.t 3), some (25, false)⟩,
  ⟨some 29, .call (.c (.clo 21 [])) [.t 28], some (25, false)⟩,
  ⟨some 30, .eqb true (.t 27) (.t 29), some (25, false)⟩,
  ⟨some 31, .pick (.t 25) (.c (.b true)) (.t 30), none⟩]
def a4_r6 : List AOper := [⟨some 2, .mv (.c (.b false)), none⟩]
def a4_r7 : List AOper := [⟨some 32, .ld 5 true (.t 3), none⟩,
  ⟨some 33, .call (.c (.clo 21 [])) [.t 32], none⟩,
  ⟨some 34, .un .not (.t 33), none⟩]
def a4_r8 : List AOper := [⟨some 35, .ld 5 true (.t 3), none⟩,
  ⟨some 36, .ld 5 true (.t 5), none⟩,
  ⟨some 37, .call (.c (.clo 20 [])) [.t 35, .t 36], none⟩,
  ⟨some 2, .mv (.t 37), none⟩]
def a4_r9 : List AOper := [⟨some 38, .ld 5 true (.t 3), none⟩,
  ⟨some 39, .call (.c (.clo 22 [])) [.t 38], none⟩,
  ⟨some 6, .new [.b false, .emp, .emp, .emp, .emp], none⟩,
  ⟨none, .st 5 (.t 6) (.t 39), none⟩]
def a4_r10 : List AOper := [⟨some 40, .ld 5 true (.t 6), none⟩,
  ⟨some 41, .ld 5 true (.t 3), none⟩,
  ⟨some 42, .call (.c (.clo 23 [])) [.t 41], none⟩,
  ⟨some 43, .call (.c (.clo 20 [])) [.t 40, .t 42], none⟩,
  ⟨some 44, .un .not (.t 43), none⟩,
  ⟨some 45, .mv (.t 44), none⟩,
  ⟨some 46, .ld 5 true (.t 6), some (45, false)⟩,
  ⟨some 47, .call (.c (.clo 15 [])) [.t 46], some (45, false)⟩,
  ⟨some 48, .ld 5 true (.t 3), some (45, false)⟩,
  ⟨some 49, .call (.c (.clo 15 [])) [.t 48], some (45, false)⟩,
  ⟨some 50, .call (.c (.clo 14 [])) [.t 47, .t 49], some (45, false)⟩,
  ⟨some 51, .un .not (.t 50), some (45, false)⟩,
  ⟨some 52, .pick (.t 45) (.c (.b true)) (.t 51), none⟩]
def a4_r11 : List AOper := [⟨some 2, .mv (.c (.b false)), none⟩]
def a4_r12 : List AOper := [⟨some 53, .ld 5 true (.t 3), none⟩,
  ⟨some 54, .call (.c (.clo 11 [])) [.t 53], none⟩,
  ⟨some 55, .bin .gtr (.t 54) (.c (.i .i64 5)), none⟩]
def a4_r13 : List AOper := [⟨some 2, .mv (.c (.b true)), none⟩]
def a4_r14 : List AOper := [⟨some 57, .ld 5 true (.t 6), none⟩,
  ⟨some 58, .call (.c (.clo 24 [])) [.t 57], none⟩,
  ⟨some 56, .mv (.t 58), none⟩,
  ⟨some 59, .ex (.t 56) 0, none⟩,
  ⟨some 60, .ex (.t 56) 1, none⟩,
  ⟨some 7, .mv (.t 59), none⟩,
  ⟨some 8, .mv (.t 60), none⟩]
def a4_r15 : List AOper := [⟨some 61, .ld 5 true (.t 5), none⟩,
  ⟨some 62, .call (.c (.clo 15 [])) [.t 61], none⟩,
  ⟨some 63, .ld 5 true (.t 3), none⟩,
  ⟨some 64, .call (.c (.clo 15 [])) [.t 63], none⟩,
  ⟨some 65, .ld 3 true (.t 4), none⟩,
  ⟨some 66, .call (.c (.clo 13 [])) [.t 64, .t 65], none⟩,
  ⟨some 67, .call (.c (.clo 14 [])) [.t 62, .t 66], none⟩,
  ⟨some 68, .mv (.t 67), none⟩,
  ⟨some 69, .ld 5 true (.t 5), some (68, true)⟩,
  ⟨some 70, .call (.c (.clo 18 [])) [.t 69], some (68, true)⟩,
  ⟨some 71, .pick (.t 68) (.t 70) (.c (.b false)), none⟩,
  ⟨some 72, .mv (.t 71), none⟩,
  ⟨some 73, .ld 5 true (.t 6), some (72, true)⟩,
  ⟨some 74, .call (.c (.clo 18 [])) [.t 73], some (72, true)⟩,
  ⟨some 75, .pick (.t 72) (.t 74) (.c (.b false)), none⟩,
  ⟨some 76, .mv (.t 75), none⟩,
  ⟨some 77, .mv (.t 8), some (76, true)⟩,
  ⟨some 78, .bin .eql (.t 77) (.c (.i .i64 0)), some (76, true)⟩,
  ⟨some 79, .mv (.t 78), some (76, true)⟩,
  ⟨some 80, .ld 5 true (.t 6), some (79, false)⟩,
  ⟨some 81, .ld 5 true (.t 3), some (79, false)⟩,
  ⟨some 82, .call (.c (.clo 20 [])) [.t 80, .t 81], some (79, false)⟩,
  ⟨some 83, .pick (.t 79) (.c (.b true)) (.t 82), some (76, true)⟩,
  ⟨some 84, .pick (.t 76) (.t 83) (.c (.b false)), none⟩,
  ⟨some 2, .mv (.t 84), none⟩]
def a4 : AFn := ⟨[false], .seq (.reg a4_r0 false []) (.seq (.seq (.reg a4_r1 false []) (.cond (.t 10) (.seq (.reg a4_r2 false []) (.ret)) (.skip))) (.seq (.reg a4_r3 false []) (.seq (.reg a4_r4 false []) (.seq (.seq (.reg a4_r5 true [(0, 3), (8, 9)]) (.cond (.t 31) (.seq (.reg a4_r6 false []) (.ret)) (.skip))) (.seq (.seq (.reg a4_r7 false []) (.cond (.t 34) (.seq (.reg a4_r8 false []) (.ret)) (.skip))) (.seq (.reg a4_r9 false []) (.seq (.seq (.reg a4_r10 true [(0, 2), (7, 8)]) (.cond (.t 52) (.seq (.reg a4_r11 false []) (.ret)) (.skip))) (.seq (.seq (.reg a4_r12 false []) (.cond (.t 55) (.seq (.reg a4_r13 false []) (.ret)) (.skip))) (.seq (.reg a4_r14 false []) (.seq (.reg a4_r15 true [(1, 2), (1, 4), (3, 4)]) (.ret))))))))))), [.t 2], []⟩
theorem reads4 : readFn Tryz.prog Tryz.f4 [false] [] [] = some a4 := by kernel_rfl
-- laws.big
def a8_r0 : List AOper := [⟨some 2, .mv (.c (.b false)), none⟩]
def a8_r1 : List AOper := [⟨some 3, .mv (.t 0), none⟩,
  ⟨some 4, .len false (.t 3), none⟩,
  ⟨some 5, .bin .gtr (.t 4) (.c (.i .i64 1048576)), none⟩,
  ⟨some 2, .mv (.t 5), none⟩]
def a8 : AFn := ⟨[false], .seq (.reg a8_r0 false []) (.seq (.reg a8_r1 false []) (.ret)), [.t 2], []⟩
theorem reads8 : readFn Tryz.prog Tryz.f8 [false] [] [] = some a8 := by kernel_rfl
-- impl.TreeDepth
def a11_r0 : List AOper := [⟨some 1, .box (.t 0), none⟩,
  ⟨some 2, .mv (.c (.i .i64 0)), none⟩]
def a11_r1 : List AOper := [⟨some 3, .ld 5 true (.t 1), none⟩,
  ⟨some 4, .call (.c (.clo 48 [])) [.t 3, .c (.i .i64 0), .c (.i .i64 1000), .c (.i .i64 7)], none⟩,
  ⟨some 2, .mv (.t 4), none⟩]
def a11 : AFn := ⟨[false], .seq (.reg a11_r0 false []) (.seq (.reg a11_r1 false []) (.ret)), [.t 2], []⟩
theorem reads11 : readFn Tryz.prog Tryz.f11 [false] [] [] = some a11 := by kernel_rfl
-- impl.Inject
def a12_r0 : List AOper := [⟨some 2, .box (.t 0), none⟩,
  ⟨some 3, .box (.t 1), none⟩,
  ⟨some 4, .new [.b false, .emp, .emp, .emp, .emp], none⟩]
def a12_r1 : List AOper := [⟨some 6, .ld 5 true (.t 2), none⟩,
  ⟨some 7, .call (.c (.clo 18 [])) [.t 6], none⟩,
  ⟨some 8, .un .not (.t 7), none⟩,
  ⟨some 9, .mv (.t 8), none⟩,
  ⟨some 10, .ld 3 true (.t 3), some (9, false)⟩,
  ⟨some 11, .call (.c (.clo 49 [])) [.t 10], some (9, false)⟩,
  ⟨some 12, .un .not (.t 11), some (9, false)⟩,
  ⟨some 13, .pick (.t 9) (.c (.b true)) (.t 12), none⟩,
  ⟨some 14, .mv (.t 13), none⟩,
  ⟨some 15, .fa 0 (.t 3), some (14, false)⟩,
  ⟨some 16, .ld 1 false (.t 15), some (14, false)⟩,
  ⟨some 17, .bin .eql (.t 16) (.c (.i .i64 4)), some (14, false)⟩,
  ⟨some 18, .pick (.t 14) (.c (.b true)) (.t 17), none⟩]
def a12_r2 : List AOper := [⟨some 19, .ld 5 true (.t 2), none⟩,
  ⟨some 20, .call (.c (.clo 50 [])) [.t 19], none⟩,
  ⟨none, .st 5 (.t 4) (.t 20), none⟩]
def a12_r3 : List AOper := [⟨some 21, .ld 5 true (.t 2), none⟩,
  ⟨some 22, .ld 3 true (.t 3), none⟩,
  ⟨some 23, .rowOf 3 [.i .i64 0, .i .i64 0, .i .i64 0] 1 [(0, .t 22)], none⟩,
  ⟨some 24, .call (.c (.clo 52 [])) [.t 21, .t 23], none⟩,
  ⟨some 25, .call (.c (.clo 51 [])) [.t 24], none⟩,
  ⟨some 5, .new [.b false, .emp, .emp, .emp, .emp], none⟩,
  ⟨none, .st 5 (.t 5) (.t 25), none⟩]
def a12_r4 : List AOper := [⟨some 26, .ld 5 true (.t 5), none⟩,
  ⟨some 27, .call (.c (.clo 18 [])) [.t 26], none⟩,
  ⟨some 28, .un .not (.t 27), none⟩]
def a12_r5 : List AOper := [⟨some 29, .ld 5 true (.t 2), none⟩,
  ⟨some 30, .call (.c (.clo 50 [])) [.t 29], none⟩,
  ⟨none, .st 5 (.t 4) (.t 30), none⟩]
def a12_r6 : List AOper := [⟨some 31, .ld 5 true (.t 5), none⟩,
  ⟨some 32, .call (.c (.clo 50 [])) [.t 31], none⟩,
  ⟨none, .st 5 (.t 4) (.t 32), none⟩]
def a12 : AFn := ⟨[false, false], .seq (.reg a12_r0 false []) (.seq (.seq (.reg a12_r1 false []) (.cond (.t 18) (.seq (.reg a12_r2 false []) (.ret)) (.skip))) (.seq (.reg a12_r3 false []) (.seq (.seq (.reg a12_r4 false []) (.cond (.t 28) (.seq (.reg a12_r5 false []) (.ret)) (.skip))) (.seq (.reg a12_r6 false []) (.ret))))), [.cell 4 5 true], []⟩
theorem reads12 : readFn Tryz.prog Tryz.f12 [false, false] [] [] = some a12 := by kernel_rfl
-- impl.MapDo
def a13_r0 : List AOper := [⟨some 3, .box (.t 1), none⟩,
  ⟨some 4, .mv (.c (.emp)), none⟩]
def a13_r1 : List AOper := [⟨some 6, .mv (.t 0), none⟩,
  ⟨some 7, .call (.c (.clo 53 [])) [.t 6], none⟩,
  ⟨some 5, .mv (.t 7), none⟩]
def a13_r2 : List AOper := [⟨some 8, .mv (.t 0), none⟩,
  ⟨some 9, .call (.c (.clo 54 [])) [.t 8], none⟩,
  ⟨some 10, .un .not (.t 9), none⟩,
  ⟨some 11, .mv (.t 10), none⟩,
  ⟨some 12, .ld 3 true (.t 3), some (11, false)⟩,
  ⟨some 13, .call (.c (.clo 49 [])) [.t 12], some (11, false)⟩,
  ⟨some 14, .un .not (.t 13), some (11, false)⟩,
  ⟨some 15, .pick (.t 11) (.c (.b true)) (.t 14), none⟩]
def a13_r3 : List AOper := [⟨some 16, .mv (.t 5), none⟩,
  ⟨some 4, .mv (.t 16), none⟩]
def a13_r4 : List AOper := [⟨some 17, .mv (.t 5), none⟩,
  ⟨some 18, .ld 3 true (.t 3), none⟩,
  ⟨some 19, .call (.c (.clo 55 [])) [.t 17, .t 18], none⟩,
  ⟨some 4, .mv (.t 19), none⟩]
def a13 : AFn := ⟨[false, false], .seq (.reg a13_r0 false []) (.seq (.reg a13_r1 false []) (.seq (.seq (.reg a13_r2 false []) (.cond (.t 15) (.seq (.reg a13_r3 false []) (.ret)) (.skip))) (.seq (.reg a13_r4 false []) (.ret)))), [.t 4], []⟩
theorem reads13 : readFn Tryz.prog Tryz.f13 [false, false] [] [] = some a13 := by kernel_rfl
-- laws.samePairs
def a14_r0 : List AOper := [⟨some 4, .mv (.c (.b false)), none⟩]
def a14_r1 : List AOper := [⟨some 6, .mv (.t 0), none⟩,
  ⟨some 7, .len false (.t 6), none⟩,
  ⟨some 8, .mv (.t 1), none⟩,
  ⟨some 9, .len false (.t 8), none⟩,
  ⟨some 10, .bin .neq (.t 7) (.t 9), none⟩]
def a14_r2 : List AOper := [⟨some 4, .mv (.c (.b false)), none⟩]
def a14_r3 : List AOper := [⟨some 5, .mv (.c (.i .i64 0)), none⟩]
def a14_r4 : List AOper := [⟨some 11, .mv (.t 5), none⟩,
  ⟨some 12, .mv (.t 0), none⟩,
  ⟨some 13, .len false (.t 12), none⟩,
  ⟨some 14, .bin .lss (.t 11) (.t 13), none⟩]
def a14_r6 : List AOper := [⟨some 17, .mv (.t 0), none⟩,
  ⟨some 18, .mv (.t 5), none⟩,
  ⟨some 19, .ia 2 (.t 17) (.t 18), none⟩,
  ⟨some 20, .ld 2 true (.t 19), none⟩,
  ⟨some 21, .mv (.t 1), none⟩,
  ⟨some 22, .mv (.t 5), none⟩,
  ⟨some 23, .ia 2 (.t 21) (.t 22), none⟩,
  ⟨some 24, .ld 2 true (.t 23), none⟩,
  ⟨some 25, .eqa true [(0, false), (1, false)] (.t 20) (.t 24), none⟩]
def a14_r7 : List AOper := [⟨some 4, .mv (.c (.b false)), none⟩]
def a14_r5 : List AOper := [⟨some 15, .mv (.t 5), none⟩,
  ⟨some 16, .bin .add (.t 15) (.c (.i .i64 1)), none⟩,
  ⟨some 5, .mv (.t 16), none⟩]
def a14_l1 : ACode := .seq (.seq (.reg a14_r4 false []) (.cond (.t 14) (.skip) (.exit 0))) (.seq (.block 1 (.seq (.reg a14_r6 true []) (.cond (.t 25) (.seq (.reg a14_r7 false []) (.ret)) (.skip)))) (.reg a14_r5 false []))
def a14_r8 : List AOper := [⟨some 4, .mv (.c (.b true)), none⟩]
def a14 : AFn := ⟨[false, false], .seq (.reg a14_r0 false []) (.seq (.seq (.reg a14_r1 false []) (.cond (.t 10) (.seq (.reg a14_r2 false []) (.ret)) (.skip))) (.seq (.seq (.reg a14_r3 false []) (.block 0 (.loop [] a14_l1))) (.seq (.reg a14_r8 false []) (.ret)))), [.t 4], []⟩
theorem reads14 : readFn Tryz.prog Tryz.f14 [false, false] [] [[]] = some a14 := by kernel_rfl
-- impl.TreeMap
def a15_r0 : List AOper := [⟨some 1, .box (.t 0), none⟩,
  ⟨some 2, .mv (.c (.emp)), none⟩]
def a15_r1 : List AOper := [⟨some 3, .ld 5 true (.t 1), none⟩,
  ⟨some 4, .call (.c (.clo 18 [])) [.t 3], none⟩,
  ⟨some 5, .un .not (.t 4), none⟩]
def a15_r2 : List AOper := [⟨some 2, .mv (.c (.emp)), none⟩]
def a15_r3 : List AOper := [⟨some 6, .ld 5 true (.t 1), none⟩,
  ⟨some 7, .call (.c (.clo 56 [])) [.t 6], none⟩,
  ⟨some 2, .mv (.t 7), none⟩]
def a15 : AFn := ⟨[false], .seq (.reg a15_r0 false []) (.seq (.seq (.reg a15_r1 false []) (.cond (.t 5) (.seq (.reg a15_r2 false []) (.ret)) (.skip))) (.seq (.reg a15_r3 false []) (.ret))), [.t 2], []⟩
theorem reads15 : readFn Tryz.prog Tryz.f15 [false] [] [] = some a15 := by kernel_rfl
-- spec.Inject
def a16_r0 : List AOper := [⟨some 2, .box (.t 0), none⟩,
  ⟨some 3, .box (.t 1), none⟩,
  ⟨some 4, .new [.b false, .emp, .emp, .emp, .emp], none⟩]
def a16_r1 : List AOper := [⟨some 6, .ld 5 true (.t 2), none⟩,
  ⟨some 7, .call (.c (.clo 21 [])) [.t 6], none⟩,
  ⟨some 8, .un .not (.t 7), none⟩,
  ⟨some 9, .mv (.t 8), none⟩,
  ⟨some 10, .ld 3 true (.t 3), some (9, false)⟩,
  ⟨some 11, .call (.c (.clo 57 [])) [.t 10], some (9, false)⟩,
  ⟨some 12, .un .not (.t 11), some (9, false)⟩,
  ⟨some 13, .pick (.t 9) (.c (.b true)) (.t 12), none⟩,
  ⟨some 14, .mv (.t 13), none⟩,
  ⟨some 15, .fa 0 (.t 3), some (14, false)⟩,
  ⟨some 16, .ld 1 false (.t 15), some (14, false)⟩,
  ⟨some 17, .bin .eql (.t 16) (.c (.i .i64 4)), some (14, false)⟩,
  ⟨some 18, .pick (.t 14) (.c (.b true)) (.t 17), none⟩]
def a16_r2 : List AOper := [⟨some 19, .ld 5 true (.t 2), none⟩,
  ⟨some 20, .call (.c (.clo 58 [])) [.t 19], none⟩,
  ⟨none, .st 5 (.t 4) (.t 20), none⟩]
def a16_r3 : List AOper := [⟨some 21, .ld 5 true (.t 2), none⟩,
  ⟨some 22, .call (.c (.clo 58 [])) [.t 21], none⟩,
  ⟨some 23, .ld 3 true (.t 3), none⟩,
  ⟨some 24, .rowOf 3 [.i .i64 0, .i .i64 0, .i .i64 0] 1 [(0, .t 23)], none⟩,
  ⟨some 25, .call (.c (.clo 60 [])) [.t 22, .t 24], none⟩,
  ⟨some 26, .call (.c (.clo 59 [])) [.t 25], none⟩,
  ⟨some 5, .new [.b false, .emp, .emp, .emp, .emp], none⟩,
  ⟨none, .st 5 (.t 5) (.t 26), none⟩]
def a16_r4 : List AOper := [⟨some 27, .ld 5 true (.t 5), none⟩,
  ⟨some 28, .call (.c (.clo 21 [])) [.t 27], none⟩,
  ⟨some 29, .un .not (.t 28), none⟩]
def a16_r5 : List AOper := [⟨some 30, .ld 5 true (.t 2), none⟩,
  ⟨some 31, .call (.c (.clo 58 [])) [.t 30], none⟩,
  ⟨none, .st 5 (.t 4) (.t 31), none⟩]
def a16_r6 : List AOper := [⟨some 32, .ld 5 true (.t 5), none⟩,
  ⟨some 33, .call (.c (.clo 58 [])) [.t 32], none⟩,
  ⟨none, .st 5 (.t 4) (.t 33), none⟩]
def a16 : AFn := ⟨[false, false], .seq (.reg a16_r0 false []) (.seq (.seq (.reg a16_r1 false []) (.cond (.t 18) (.seq (.reg a16_r2 false []) (.ret)) (.skip))) (.seq (.reg a16_r3 true [(1, 2), (0, 3), (1, 3), (0, 6), (1, 6), (2, 6), (3, 6), (4, 6), (5, 6)]) (.seq (.seq (.reg a16_r4 false []) (.cond (.t 29) (.seq (.reg a16_r5 false []) (.ret)) (.skip))) (.seq (.reg a16_r6 false []) (.ret))))), [.cell 4 5 true], []⟩
theorem reads16 : readFn Tryz.prog Tryz.f16 [false, false] [] [] = some a16 := by kernel_rfl
-- spec.TreeNew
def a17_r0 : List AOper := [⟨some 0, .new [.b false, .emp, .emp, .emp, .emp], none⟩]
def a17_r1 : List AOper := [⟨some 1, .build [.b false, .emp, .emp, .emp, .emp] [(0, 1, .c (.b true))], none⟩,
  ⟨none, .st 5 (.t 0) (.t 1), none⟩]
def a17 : AFn := ⟨[], .seq (.reg a17_r0 false []) (.seq (.reg a17_r1 false []) (.ret)), [.cell 0 5 true], []⟩
theorem reads17 : readFn Tryz.prog Tryz.f17 [] [] [] = some a17 := by kernel_rfl
-- impl.TreeOk
def a18_r0 : List AOper := [⟨some 1, .box (.t 0), none⟩,
  ⟨some 2, .mv (.c (.b false)), none⟩]
def a18_r1 : List AOper := [⟨some 3, .ld 5 true (.t 1), none⟩,
  ⟨some 4, .call (.c (.clo 11 [])) [.t 3], none⟩,
  ⟨some 5, .bin .gtr (.t 4) (.c (.i .i64 0)), none⟩,
  ⟨some 2, .mv (.t 5), none⟩]
def a18 : AFn := ⟨[false], .seq (.reg a18_r0 false []) (.seq (.reg a18_r1 false []) (.ret)), [.t 2], []⟩
theorem reads18 : readFn Tryz.prog Tryz.f18 [false] [] [] = some a18 := by kernel_rfl
-- spec.DrawInject
def a19_r0 : List AOper := [⟨some 2, .new [.b false, .emp, .emp, .emp, .emp], none⟩,
  ⟨some 3, .new [.i .i64 0, .i .i64 0, .i .i64 0], none⟩]
def a19_r1 : List AOper := [⟨some 6, .mv (.t 0), none⟩,
  ⟨some 7, .call (.c (.clo 45 [])) [.t 6], none⟩,
  ⟨some 4, .mv (.t 7), none⟩]
def a19_r2 : List AOper := [⟨some 8, .mv (.t 4), none⟩,
  ⟨some 9, .mv (.t 0), none⟩,
  ⟨some 10, .call (.c (.clo 61 [])) [.t 8, .t 9], none⟩,
  ⟨some 5, .new [.b false, .emp, .emp, .emp, .emp], none⟩,
  ⟨none, .st 5 (.t 5) (.t 10), none⟩]
def a19_r3 : List AOper := [⟨some 11, .ld 5 true (.t 5), none⟩,
  ⟨some 12, .mv (.t 4), none⟩,
  ⟨some 13, .call (.c (.clo 62 [])) [.t 12], none⟩,
  ⟨none, .st 5 (.t 2) (.t 11), none⟩,
  ⟨none, .st 3 (.t 3) (.t 13), none⟩]
def a19 : AFn := ⟨[false], .seq (.reg a19_r0 false []) (.seq (.reg a19_r1 false []) (.seq (.reg a19_r2 false []) (.seq (.reg a19_r3 true [(0, 2)]) (.ret)))), [.cell 2 5 true, .cell 3 3 true], []⟩
theorem reads19 : readFn Tryz.prog Tryz.f19 [false] [] [] = some a19 := by kernel_rfl
-- laws.sameTree
def a20_r0 : List AOper := [⟨some 2, .box (.t 0), none⟩,
  ⟨some 3, .box (.t 1), none⟩,
  ⟨some 4, .mv (.c (.b false)), none⟩]
def a20_r1 : List AOper := [⟨some 6, .fa 0 (.t 2), none⟩,
  ⟨some 7, .ld 1 false (.t 6), none⟩,
  ⟨some 8, .fa 0 (.t 3), none⟩,
  ⟨some 9, .ld 1 false (.t 8), none⟩,
  ⟨some 10, .eqb true (.t 7) (.t 9), none⟩,
  ⟨some 11, .mv (.t 10), none⟩,
  ⟨some 12, .fa 1 (.t 2), some (11, false)⟩,
  ⟨some 13, .ld 1 false (.t 12), some (11, false)⟩,
  ⟨some 14, .fa 1 (.t 3), some (11, false)⟩,
  ⟨some 15, .ld 1 false (.t 14), some (11, false)⟩,
  ⟨some 16, .call (.c (.clo 14 [])) [.t 13, .t 15], some (11, false)⟩,
  ⟨some 17, .un .not (.t 16), some (11, false)⟩,
  ⟨some 18, .pick (.t 11) (.c (.b true)) (.t 17), none⟩,
  ⟨some 19, .mv (.t 18), none⟩,
  ⟨some 20, .fa 2 (.t 2), some (19, false)⟩,
  ⟨some 21, .ld 1 false (.t 20), some (19, false)⟩,
  ⟨some 22, .fa 2 (.t 3), some (19, false)⟩,
  ⟨some 23, .ld 1 false (.t 22), some (19, false)⟩,
  ⟨some 24, .call (.c (.clo 63 [])) [.t 21, .t 23], some (19, false)⟩,
  ⟨some 25, .un .not (.t 24), some (19, false)⟩,
  ⟨some 26, .pick (.t 19) (.c (.b true)) (.t 25), none⟩,
  ⟨some 27, .mv (.t 26), none⟩,
  ⟨some 28, .fa 4 (.t 2), some (27, false)⟩,
  ⟨some 29, .ld 1 false (.t 28), some (27, false)⟩,
  ⟨some 30, .fa 4 (.t 3), some (27, false)⟩,
  ⟨some 31, .ld 1 false (.t 30), some (27, false)⟩,
  ⟨some 32, .call (.c (.clo 64 [])) [.t 29, .t 31], some (27, false)⟩,
  ⟨some 33, .un .not (.t 32), some (27, false)⟩,
  ⟨some 34, .pick (.t 27) (.c (.b true)) (.t 33), none⟩,
  ⟨some 35, .mv (.t 34), none⟩,
  ⟨some 36, .fa 3 (.t 2), some (35, false)⟩,
  ⟨some 37, .ld 1 false (.t 36), some (35, false)⟩,
  ⟨some 38, .len false (.t 37), some (35, false)⟩,
  ⟨some 39, .fa 3 (.t 3), some (35, false)⟩,
  ⟨some 40, .ld 1 false (.t 39), some (35, false)⟩,
  ⟨some 41, .len false (.t 40), some (35, false)⟩,
  ⟨some 42, .bin .neq (.t 38) (.t 41), some (35, false)⟩,
  ⟨some 43, .pick (.t 35) (.c (.b true)) (.t 42), none⟩]
def a20_r2 : List AOper := [⟨some 4, .mv (.c (.b false)), none⟩]
def a20_r3 : List AOper := [⟨some 5, .mv (.c (.i .i64 0)), none⟩]
def a20_r4 : List AOper := [⟨some 44, .mv (.t 5), none⟩,
  ⟨some 45, .fa 3 (.t 2), none⟩,
  ⟨some 46, .ld 1 false (.t 45), none⟩,
  ⟨some 47, .len false (.t 46), none⟩,
  ⟨some 48, .bin .lss (.t 44) (.t 47), none⟩]
def a20_r6 : List AOper := [⟨some 51, .fa 3 (.t 2), none⟩,
  ⟨some 52, .ld 1 false (.t 51), none⟩,
  ⟨some 53, .mv (.t 5), none⟩,
  ⟨some 54, .ia 5 (.t 52) (.t 53), none⟩,
  ⟨some 55, .ld 5 true (.t 54), none⟩,
  ⟨some 56, .fa 3 (.t 3), none⟩,
  ⟨some 57, .ld 1 false (.t 56), none⟩,
  ⟨some 58, .mv (.t 5), none⟩,
  ⟨some 59, .ia 5 (.t 57) (.t 58), none⟩,
  ⟨some 60, .ld 5 true (.t 59), none⟩,
  ⟨some 61, .call (.c (.clo 20 [])) [.t 55, .t 60], none⟩,
  ⟨some 62, .un .not (.t 61), none⟩]
def a20_r7 : List AOper := [⟨some 4, .mv (.c (.b false)), none⟩]
def a20_r5 : List AOper := [⟨some 49, .mv (.t 5), none⟩,
  ⟨some 50, .bin .add (.t 49) (.c (.i .i64 1)), none⟩,
  ⟨some 5, .mv (.t 50), none⟩]
def a20_l1 : ACode := .seq (.seq (.reg a20_r4 false []) (.cond (.t 48) (.skip) (.exit 0))) (.seq (.block 1 (.seq (.reg a20_r6 true []) (.cond (.t 62) (.seq (.reg a20_r7 false []) (.ret)) (.skip)))) (.reg a20_r5 false []))
def a20_r8 : List AOper := [⟨some 4, .mv (.c (.b true)), none⟩]
def a20 : AFn := ⟨[false, false], .seq (.reg a20_r0 false []) (.seq (.seq (.reg a20_r1 false []) (.cond (.t 43) (.seq (.reg a20_r2 false []) (.ret)) (.skip))) (.seq (.seq (.reg a20_r3 false []) (.block 0 (.loop [] a20_l1))) (.seq (.reg a20_r8 false []) (.ret)))), [.t 4], []⟩
theorem reads20 : readFn Tryz.prog Tryz.f20 [false, false] [] [[]] = some a20 := by kernel_rfl
-- spec.TreeOk
def a21_r0 : List AOper := [⟨some 1, .box (.t 0), none⟩,
  ⟨some 2, .mv (.c (.b false)), none⟩]
def a21_r1 : List AOper := [⟨some 3, .ld 5 true (.t 1), none⟩,
  ⟨some 4, .call (.c (.clo 65 [])) [.t 3], none⟩,
  ⟨some 5, .bin .gtr (.t 4) (.c (.i .i64 0)), none⟩,
  ⟨some 2, .mv (.t 5), none⟩]
def a21 : AFn := ⟨[false], .seq (.reg a21_r0 false []) (.seq (.reg a21_r1 false []) (.ret)), [.t 2], []⟩
theorem reads21 : readFn Tryz.prog Tryz.f21 [false] [] [] = some a21 := by kernel_rfl
-- impl.Drain
def a22_r0 : List AOper := [⟨some 1, .box (.t 0), none⟩,
  ⟨some 2, .new [.b false, .emp, .emp, .emp, .emp], none⟩]
def a22_r1 : List AOper := [⟨some 4, .ld 5 true (.t 1), none⟩,
  ⟨some 5, .call (.c (.clo 18 [])) [.t 4], none⟩,
  ⟨some 6, .un .not (.t 5), none⟩]
def a22_r2 : List AOper := [⟨some 7, .ld 5 true (.t 1), none⟩,
  ⟨some 8, .call (.c (.clo 50 [])) [.t 7], none⟩,
  ⟨none, .st 5 (.t 2) (.t 8), none⟩]
def a22_r3 : List AOper := [⟨some 9, .ld 5 true (.t 1), none⟩,
  ⟨some 10, .call (.c (.clo 66 [])) [.t 9], none⟩,
  ⟨some 11, .call (.c (.clo 51 [])) [.t 10], none⟩,
  ⟨some 3, .new [.b false, .emp, .emp, .emp, .emp], none⟩,
  ⟨none, .st 5 (.t 3) (.t 11), none⟩]
def a22_r4 : List AOper := [⟨some 12, .ld 5 true (.t 3), none⟩,
  ⟨some 13, .call (.c (.clo 18 [])) [.t 12], none⟩,
  ⟨some 14, .un .not (.t 13), none⟩]
def a22_r5 : List AOper := [⟨some 15, .ld 5 true (.t 1), none⟩,
  ⟨some 16, .call (.c (.clo 50 [])) [.t 15], none⟩,
  ⟨none, .st 5 (.t 2) (.t 16), none⟩]
def a22_r6 : List AOper := [⟨some 17, .ld 5 true (.t 3), none⟩,
  ⟨some 18, .call (.c (.clo 50 [])) [.t 17], none⟩,
  ⟨none, .st 5 (.t 2) (.t 18), none⟩]
def a22 : AFn := ⟨[false], .seq (.reg a22_r0 false []) (.seq (.seq (.reg a22_r1 false []) (.cond (.t 6) (.seq (.reg a22_r2 false []) (.ret)) (.skip))) (.seq (.reg a22_r3 false []) (.seq (.seq (.reg a22_r4 false []) (.cond (.t 14) (.seq (.reg a22_r5 false []) (.ret)) (.skip))) (.seq (.reg a22_r6 false []) (.ret))))), [.cell 2 5 true], []⟩
theorem reads22 : readFn Tryz.prog Tryz.f22 [false] [] [] = some a22 := by kernel_rfl
-- spec.Drain
def a23_r0 : List AOper := [⟨some 1, .box (.t 0), none⟩,
  ⟨some 2, .new [.b false, .emp, .emp, .emp, .emp], none⟩]
def a23_r1 : List AOper := [⟨some 4, .ld 5 true (.t 1), none⟩,
  ⟨some 5, .call (.c (.clo 21 [])) [.t 4], none⟩,
  ⟨some 6, .un .not (.t 5), none⟩]
def a23_r2 : List AOper := [⟨some 7, .ld 5 true (.t 1), none⟩,
  ⟨some 8, .call (.c (.clo 58 [])) [.t 7], none⟩,
  ⟨none, .st 5 (.t 2) (.t 8), none⟩]
def a23_r3 : List AOper := [⟨some 9, .ld 5 true (.t 1), none⟩,
  ⟨some 10, .call (.c (.clo 58 [])) [.t 9], none⟩,
  ⟨some 11, .call (.c (.clo 67 [])) [.t 10], none⟩,
  ⟨some 12, .call (.c (.clo 59 [])) [.t 11], none⟩,
  ⟨some 3, .new [.b false, .emp, .emp, .emp, .emp], none⟩,
  ⟨none, .st 5 (.t 3) (.t 12), none⟩]
def a23_r4 : List AOper := [⟨some 13, .ld 5 true (.t 3), none⟩,
  ⟨some 14, .call (.c (.clo 21 [])) [.t 13], none⟩,
  ⟨some 15, .un .not (.t 14), none⟩]
def a23_r5 : List AOper := [⟨some 16, .ld 5 true (.t 1), none⟩,
  ⟨some 17, .call (.c (.clo 58 [])) [.t 16], none⟩,
  ⟨none, .st 5 (.t 2) (.t 17), none⟩]
def a23_r6 : List AOper := [⟨some 18, .ld 5 true (.t 3), none⟩,
  ⟨some 19, .call (.c (.clo 58 [])) [.t 18], none⟩,
  ⟨none, .st 5 (.t 2) (.t 19), none⟩]
def a23 : AFn := ⟨[false], .seq (.reg a23_r0 false []) (.seq (.seq (.reg a23_r1 false []) (.cond (.t 6) (.seq (.reg a23_r2 false []) (.ret)) (.skip))) (.seq (.reg a23_r3 false []) (.seq (.seq (.reg a23_r4 false []) (.cond (.t 15) (.seq (.reg a23_r5 false []) (.ret)) (.skip))) (.seq (.reg a23_r6 false []) (.ret))))), [.cell 2 5 true], []⟩
theorem reads23 : readFn Tryz.prog Tryz.f23 [false] [] [] = some a23 := by kernel_rfl
-- impl.TreeCount
def a24_r0 : List AOper := [⟨some 1, .box (.t 0), none⟩,
  ⟨some 2, .mv (.c (.i .i64 0)), none⟩,
  ⟨some 3, .mv (.c (.i .i64 0)), none⟩]
def a24_r1 : List AOper := [⟨some 4, .ld 5 true (.t 1), none⟩,
  ⟨some 5, .call (.c (.clo 18 [])) [.t 4], none⟩,
  ⟨some 6, .un .not (.t 5), none⟩]
def a24_r2 : List AOper := [⟨some 2, .mv (.c (.i .i64 0)), none⟩,
  ⟨some 3, .mv (.c (.i .i64 0)), none⟩]
def a24_r3 : List AOper := [⟨some 7, .ld 5 true (.t 1), none⟩,
  ⟨some 8, .call (.c (.clo 68 [])) [.t 7], none⟩,
  ⟨some 9, .ex (.t 8) 0, none⟩,
  ⟨some 10, .ex (.t 8) 1, none⟩,
  ⟨some 2, .mv (.t 9), none⟩,
  ⟨some 3, .mv (.t 10), none⟩]
def a24 : AFn := ⟨[false], .seq (.reg a24_r0 false []) (.seq (.seq (.reg a24_r1 false []) (.cond (.t 6) (.seq (.reg a24_r2 false []) (.ret)) (.skip))) (.seq (.reg a24_r3 false []) (.ret))), [.t 2, .t 3], []⟩
theorem reads24 : readFn Tryz.prog Tryz.f24 [false] [] [] = some a24 := by kernel_rfl
-- spec.l1New
def a45_r0 : List AOper := [⟨some 2, .mv (.c (.junk)), none⟩]
def a45_r1 : List AOper := [⟨some 5, .mv (.t 0), none⟩,
  ⟨some 6, .len false (.t 5), none⟩,
  ⟨some 7, .bin .add (.c (.i .i64 18665)) (.t 6), none⟩,
  ⟨some 3, .mv (.t 7), none⟩]
def a45_r2 : List AOper := [⟨some 4, .mv (.c (.i .i64 0)), none⟩]
def a45_r3 : List AOper := [⟨some 8, .mv (.t 4), none⟩,
  ⟨some 9, .mv (.t 0), none⟩,
  ⟨some 10, .len false (.t 9), none⟩,
  ⟨some 11, .bin .lss (.t 8) (.t 10), none⟩,
  ⟨some 12, .mv (.t 11), none⟩,
  ⟨some 13, .mv (.t 4), some (12, true)⟩,
  ⟨some 14, .bin .lss (.t 13) (.c (.i .i64 4000)), some (12, true)⟩,
  ⟨some 15, .pick (.t 12) (.t 14) (.c (.b false)), none⟩]
def a45_r5 : List AOper := [⟨some 18, .mv (.t 3), none⟩,
  ⟨some 19, .bin .mul (.t 18) (.c (.i .i64 131)), none⟩,
  ⟨some 20, .mv (.t 0), none⟩,
  ⟨some 21, .mv (.t 4), none⟩,
  ⟨some 22, .ia 1 (.t 20) (.t 21), none⟩,
  ⟨some 23, .ld 1 false (.t 22), none⟩,
  ⟨some 24, .cvI .i64 (.t 23), none⟩,
  ⟨some 25, .bin .add (.t 19) (.t 24), none⟩,
  ⟨some 26, .bin .add (.t 25) (.c (.i .i64 7)), none⟩,
  ⟨some 27, .bin .and (.t 26) (.c (.i .i64 1073741823)), none⟩,
  ⟨some 3, .mv (.t 27), none⟩]
def a45_r4 : List AOper := [⟨some 16, .mv (.t 4), none⟩,
  ⟨some 17, .bin .add (.t 16) (.c (.i .i64 1)), none⟩,
  ⟨some 4, .mv (.t 17), none⟩]
def a45_l1 : ACode := .seq (.seq (.reg a45_r3 false []) (.cond (.t 15) (.skip) (.exit 0))) (.seq (.block 1 (.reg a45_r5 false [])) (.reg a45_r4 false []))
def a45_r6 : List AOper := [⟨some 28, .mv (.t 0), none⟩,
  ⟨some 29, .mv (.t 3), none⟩,
  ⟨some 30, .build [.emp, .i .i64 0, .i .i64 0] [(0, 1, .t 28), (2, 1, .t 29)], none⟩,
  ⟨some 31, .box (.t 30), none⟩,
  ⟨some 2, .mv (.t 31), none⟩]
def a45 : AFn := ⟨[false], .seq (.reg a45_r0 false []) (.seq (.reg a45_r1 false []) (.seq (.seq (.reg a45_r2 false []) (.block 0 (.loop [] a45_l1))) (.seq (.reg a45_r6 false []) (.ret)))), [.t 2], []⟩
theorem reads45 : readFn Tryz.prog Tryz.f45 [false] [] [[]] = some a45 := by kernel_rfl
-- spec.l1Long
def a46_r0 : List AOper := [⟨some 6, .mv (.c (.i .i64 0)), none⟩]
def a46_r1 : List AOper := [⟨some 8, .mv (.t 1), none⟩,
  ⟨some 9, .mv (.t 0), none⟩,
  ⟨some 10, .len false (.t 9), none⟩,
  ⟨some 11, .bin .quo (.t 10) (.c (.i .i64 4)), none⟩,
  ⟨some 12, .bin .add (.t 8) (.t 11), none⟩,
  ⟨some 7, .mv (.t 12), none⟩]
def a46_r2 : List AOper := [⟨some 13, .mv (.t 7), none⟩,
  ⟨some 14, .mv (.t 2), none⟩,
  ⟨some 15, .bin .gtr (.t 13) (.t 14), none⟩]
def a46_r3 : List AOper := [⟨some 16, .mv (.t 2), none⟩,
  ⟨some 6, .mv (.t 16), none⟩]
def a46_r4 : List AOper := [⟨some 17, .mv (.t 7), none⟩,
  ⟨some 6, .mv (.t 17), none⟩]
def a46 : AFn := ⟨[false, false, false], .seq (.reg a46_r0 false []) (.seq (.reg a46_r1 false []) (.seq (.seq (.reg a46_r2 false []) (.cond (.t 15) (.seq (.reg a46_r3 false []) (.ret)) (.skip))) (.seq (.reg a46_r4 false []) (.ret)))), [.t 6], []⟩
theorem reads46 : readFn Tryz.prog Tryz.f46 [false, false, false] [] [] = some a46 := by kernel_rfl
-- spec.l1DrawMsg
def a47_r0 : List AOper := [⟨some 2, .new [.i .i64 0, .i .i64 0, .i .i64 0], none⟩]
def a47_r1 : List AOper := [⟨some 4, .mv (.t 0), none⟩,
  ⟨some 5, .rowOf 1 [.i .i64 0] 7 [(0, .c (.i .i64 1)), (1, .c (.i .i64 1)), (2, .c (.i .i64 1)), (3, .c (.i .i64 2)), (4, .c (.i .i64 3)), (5, .c (.i .i64 3)), (6, .c (.i .i64 4))], none⟩,
  ⟨some 6, .call (.c (.clo 92 [])) [.t 4, .t 5], none⟩,
  ⟨some 7, .mv (.t 0), none⟩,
  ⟨some 8, .call (.c (.clo 93 [])) [.t 7], none⟩,
  ⟨some 9, .build [.i .i64 0, .i .i64 0, .i .i64 0] [(0, 1, .t 6), (1, 1, .t 8)], none⟩,
  ⟨some 3, .new [.i .i64 0, .i .i64 0, .i .i64 0], none⟩,
  ⟨none, .st 3 (.t 3) (.t 9), none⟩]
def a47_r2 : List AOper := [⟨some 10, .fa 0 (.t 3), none⟩,
  ⟨some 11, .ld 1 false (.t 10), none⟩,
  ⟨some 12, .bin .eql (.t 11) (.c (.i .i64 1)), none⟩,
  ⟨some 13, .mv (.t 12), none⟩,
  ⟨some 14, .fa 0 (.t 3), some (13, false)⟩,
  ⟨some 15, .ld 1 false (.t 14), some (13, false)⟩,
  ⟨some 16, .bin .eql (.t 15) (.c (.i .i64 3)), some (13, false)⟩,
  ⟨some 17, .pick (.t 13) (.c (.b true)) (.t 16), none⟩]
def a47_r3 : List AOper := [⟨some 18, .mv (.t 0), none⟩,
  ⟨some 19, .mv (.t 0), none⟩,
  ⟨some 20, .call (.c (.clo 90 [])) [.t 19, .c (.i .i64 99)], none⟩,
  ⟨some 21, .rowOf 1 [.i .i64 0] 7 [(0, .c (.i .i64 1)), (1, .c (.i .i64 (-2))), (2, .c (.i .i64 5)), (3, .c (.i .i64 700)), (4, .c (.i .i64 1000000000)), (5, .c (.i .i64 (-1000000000))), (6, .t 20)], none⟩,
  ⟨some 22, .call (.c (.clo 92 [])) [.t 18, .t 21], none⟩,
  ⟨some 23, .fa 2 (.t 3), none⟩,
  ⟨none, .st 1 (.t 23) (.t 22), none⟩]
def a47_r4 : List AOper := [⟨some 24, .ld 3 true (.t 3), none⟩,
  ⟨none, .st 3 (.t 2) (.t 24), none⟩]
def a47 : AFn := ⟨[true], .seq (.reg a47_r0 false []) (.seq (.reg a47_r1 false []) (.seq (.seq (.reg a47_r2 false []) (.cond (.t 17) (.reg a47_r3 false []) (.skip))) (.seq (.reg a47_r4 false []) (.ret)))), [.cell 2 3 true], []⟩
theorem reads47 : readFn Tryz.prog Tryz.f47 [true] [] [] = some a47 := by kernel_rfl
-- impl.depthOf
def a48_r0 : List AOper := [⟨some 4, .box (.t 0), none⟩,
  ⟨some 5, .box (.t 1), none⟩,
  ⟨some 6, .box (.t 2), none⟩,
  ⟨some 8, .mv (.c (.i .i64 0)), none⟩]
def a48_r1 : List AOper := [⟨some 15, .mv (.t 3), none⟩,
  ⟨some 16, .bin .eql (.t 15) (.c (.i .i64 0)), none⟩]
def a48_r2 : List AOper := [⟨some 8, .mv (.c (.i .i64 0)), none⟩]
def a48_r3 : List AOper := [⟨some 17, .fa 0 (.t 4), none⟩,
  ⟨some 18, .ld 1 false (.t 17), none⟩]
def a48_r4 : List AOper := [⟨some 19, .ld 5 true (.t 4), none⟩,
  ⟨some 20, .ld 1 false (.t 5), none⟩,
  ⟨some 21, .ld 1 false (.t 6), none⟩,
  ⟨some 22, .call (.c (.clo 94 [])) [.t 19, .t 20, .t 21], none⟩,
  ⟨some 23, .un .not (.t 22), none⟩]
def a48_r5 : List AOper := [⟨some 8, .mv (.c (.i .i64 0)), none⟩]
def a48_r6 : List AOper := [⟨some 8, .mv (.c (.i .i64 1)), none⟩]
def a48_r7 : List AOper := [⟨some 24, .fa 3 (.t 4), none⟩,
  ⟨some 25, .ld 1 false (.t 24), none⟩,
  ⟨some 26, .len false (.t 25), none⟩,
  ⟨some 27, .call (.c (.clo 95 [])) [.t 26, .c (.i .i64 2), .c (.i .i64 4)], none⟩,
  ⟨some 28, .un .not (.t 27), none⟩,
  ⟨some 29, .mv (.t 28), none⟩,
  ⟨some 30, .fa 2 (.t 4), some (29, false)⟩,
  ⟨some 31, .ld 1 false (.t 30), some (29, false)⟩,
  ⟨some 32, .len false (.t 31), some (29, false)⟩,
  ⟨some 33, .fa 3 (.t 4), some (29, false)⟩,
  ⟨some 34, .ld 1 false (.t 33), some (29, false)⟩,
  ⟨some 35, .len false (.t 34), some (29, false)⟩,
  ⟨some 36, .bin .sub (.t 35) (.c (.i .i64 1)), some (29, false)⟩,
  ⟨some 37, .bin .neq (.t 32) (.t 36), some (29, false)⟩,
  ⟨some 38, .pick (.t 29) (.c (.b true)) (.t 37), none⟩,
  ⟨some 39, .mv (.t 38), none⟩,
  ⟨some 40, .fa 4 (.t 4), some (39, false)⟩,
  ⟨some 41, .ld 1 false (.t 40), some (39, false)⟩,
  ⟨some 42, .len false (.t 41), some (39, false)⟩,
  ⟨some 43, .bin .gtr (.t 42) (.c (.i .i64 6)), some (39, false)⟩,
  ⟨some 44, .pick (.t 39) (.c (.b true)) (.t 43), none⟩,
  ⟨some 45, .mv (.t 44), none⟩,
  ⟨some 46, .fa 1 (.t 4), some (45, false)⟩,
  ⟨some 47, .ld 1 false (.t 46), some (45, false)⟩,
  ⟨some 48, .len false (.t 47), some (45, false)⟩,
  ⟨some 49, .bin .gtr (.t 48) (.c (.i .i64 0)), some (45, false)⟩,
  ⟨some 50, .pick (.t 45) (.c (.b true)) (.t 49), none⟩]
def a48_r8 : List AOper := [⟨some 8, .mv (.c (.i .i64 0)), none⟩]
def a48_r9 : List AOper := [⟨some 51, .fa 4 (.t 4), none⟩,
  ⟨some 52, .ld 1 false (.t 51), none⟩,
  ⟨some 53, .mf 97 [.t 5, .t 6], none⟩,
  ⟨some 54, .call (.c (.clo 96 [])) [.t 52, .t 53], none⟩]
def a48_r10 : List AOper := [⟨some 8, .mv (.c (.i .i64 0)), none⟩]
def a48_r11 : List AOper := [⟨some 9, .mv (.c (.i .i64 0)), none⟩]
def a48_r12 : List AOper := [⟨some 55, .ld 1 false (.t 5), none⟩,
  ⟨some 10, .mv (.t 55), none⟩]
def a48_r13 : List AOper := [⟨some 56, .fa 3 (.t 4), none⟩,
  ⟨some 57, .ld 1 false (.t 56), none⟩,
  ⟨some 58, .len false (.t 57), none⟩,
  ⟨some 59, .mv (.c (.i .i64 0)), none⟩]
def a48_r14 : List AOper := [⟨some 60, .bin .lss (.t 59) (.t 58), none⟩]
def a48_r15 : List AOper := [⟨some 61, .mv (.t 59), none⟩,
  ⟨some 62, .ia 5 (.t 57) (.t 59), none⟩,
  ⟨some 63, .ld 5 true (.t 62), none⟩,
  ⟨some 12, .new [.b false, .emp, .emp, .emp, .emp], none⟩,
  ⟨some 11, .mv (.t 61), none⟩,
  ⟨none, .st 5 (.t 12) (.t 63), none⟩]
def a48_r16 : List AOper := [⟨some 64, .ld 1 false (.t 6), none⟩,
  ⟨some 13, .mv (.t 64), none⟩]
def a48_r17 : List AOper := [⟨some 65, .mv (.t 11), none⟩,
  ⟨some 66, .fa 2 (.t 4), none⟩,
  ⟨some 67, .ld 1 false (.t 66), none⟩,
  ⟨some 68, .len false (.t 67), none⟩,
  ⟨some 69, .bin .lss (.t 65) (.t 68), none⟩]
def a48_r18 : List AOper := [⟨some 70, .fa 2 (.t 4), none⟩,
  ⟨some 71, .ld 1 false (.t 70), none⟩,
  ⟨some 72, .mv (.t 11), none⟩,
  ⟨some 73, .ia 1 (.t 71) (.t 72), none⟩,
  ⟨some 74, .ld 1 false (.t 73), none⟩,
  ⟨some 13, .mv (.t 74), none⟩]
def a48_r19 : List AOper := [⟨some 75, .mv (.t 11), none⟩,
  ⟨some 76, .fa 2 (.t 4), none⟩,
  ⟨some 77, .ld 1 false (.t 76), none⟩,
  ⟨some 78, .len false (.t 77), none⟩,
  ⟨some 79, .bin .lss (.t 75) (.t 78), none⟩,
  ⟨some 80, .mv (.t 79), none⟩,
  ⟨some 81, .mv (.t 13), some (80, true)⟩,
  ⟨some 82, .call (.c (.clo 95 [])) [.t 81, .c (.i .i64 1), .c (.i .i64 999)], some (80, true)⟩,
  ⟨some 83, .un .not (.t 82), some (80, true)⟩,
  ⟨some 84, .mv (.t 83), some (80, true)⟩,
  ⟨some 85, .mv (.t 13), some (84, false)⟩,
  ⟨some 86, .mv (.t 10), some (84, false)⟩,
  ⟨some 87, .bin .leq (.t 85) (.t 86), some (84, false)⟩,
  ⟨some 88, .pick (.t 84) (.c (.b true)) (.t 87), some (80, true)⟩,
  ⟨some 89, .mv (.t 88), some (80, true)⟩,
  ⟨some 90, .mv (.t 13), some (89, false)⟩,
  ⟨some 91, .ld 1 false (.t 6), some (89, false)⟩,
  ⟨some 92, .bin .geq (.t 90) (.t 91), some (89, false)⟩,
  ⟨some 93, .pick (.t 89) (.c (.b true)) (.t 92), some (80, true)⟩,
  ⟨some 94, .pick (.t 80) (.t 93) (.c (.b false)), none⟩]
def a48_r20 : List AOper := [⟨some 8, .mv (.c (.i .i64 0)), none⟩]
def a48_r21 : List AOper := [⟨some 95, .ld 5 true (.t 12), none⟩,
  ⟨some 96, .mv (.t 10), none⟩,
  ⟨some 97, .mv (.t 13), none⟩,
  ⟨some 98, .mv (.t 3), none⟩,
  ⟨some 99, .bin .sub (.t 98) (.c (.i .i64 1)), none⟩,
  ⟨some 100, .call (.c (.clo 48 [])) [.t 95, .t 96, .t 97, .t 99], none⟩,
  ⟨some 14, .mv (.t 100), none⟩]
def a48_r22 : List AOper := [⟨some 101, .mv (.t 14), none⟩,
  ⟨some 102, .bin .eql (.t 101) (.c (.i .i64 0)), none⟩,
  ⟨some 103, .mv (.t 102), none⟩,
  ⟨some 104, .mv (.t 11), some (103, false)⟩,
  ⟨some 105, .bin .gtr (.t 104) (.c (.i .i64 0)), some (103, false)⟩,
  ⟨some 106, .mv (.t 105), some (103, false)⟩,
  ⟨some 107, .mv (.t 14), some (106, true)⟩,
  ⟨some 108, .mv (.t 9), some (106, true)⟩,
  ⟨some 109, .bin .neq (.t 107) (.t 108), some (106, true)⟩,
  ⟨some 110, .pick (.t 106) (.t 109) (.c (.b false)), some (103, false)⟩,
  ⟨some 111, .pick (.t 103) (.c (.b true)) (.t 110), none⟩]
def a48_r23 : List AOper := [⟨some 8, .mv (.c (.i .i64 0)), none⟩]
def a48_r24 : List AOper := [⟨some 112, .mv (.t 14), none⟩,
  ⟨some 9, .mv (.t 112), none⟩]
def a48_r25 : List AOper := [⟨some 113, .mv (.t 13), none⟩,
  ⟨some 10, .mv (.t 113), none⟩]
def a48_r26 : List AOper := [⟨some 114, .bin .add (.t 59) (.c (.i .i64 1)), none⟩,
  ⟨some 59, .mv (.t 114), none⟩]
def a48_l1 : ACode := .seq (.reg a48_r14 false []) (.seq (.cond (.t 60) (.skip) (.exit 0)) (.seq (.block 1 (.seq (.reg a48_r15 false []) (.seq (.reg a48_r16 false []) (.seq (.seq (.reg a48_r17 false []) (.cond (.t 69) (.reg a48_r18 false []) (.skip))) (.seq (.seq (.reg a48_r19 false []) (.cond (.t 94) (.seq (.reg a48_r20 false []) (.ret)) (.skip))) (.seq (.reg a48_r21 false []) (.seq (.seq (.reg a48_r22 false []) (.cond (.t 111) (.seq (.reg a48_r23 false []) (.ret)) (.skip))) (.seq (.reg a48_r24 false []) (.reg a48_r25 false []))))))))) (.reg a48_r26 false [])))
def a48_r27 : List AOper := [⟨some 115, .mv (.t 9), none⟩,
  ⟨some 116, .bin .add (.t 115) (.c (.i .i64 1)), none⟩,
  ⟨some 8, .mv (.t 116), none⟩]
def a48 : AFn := ⟨[false, false, false, false], .seq (.reg a48_r0 false []) (.seq (.seq (.reg a48_r1 false []) (.cond (.t 16) (.seq (.reg a48_r2 false []) (.ret)) (.skip))) (.seq (.seq (.reg a48_r3 false []) (.cond (.t 18) (.seq (.seq (.reg a48_r4 false []) (.cond (.t 23) (.seq (.reg a48_r5 false []) (.ret)) (.skip))) (.seq (.reg a48_r6 false []) (.ret))) (.skip))) (.seq (.seq (.reg a48_r7 false []) (.cond (.t 50) (.seq (.reg a48_r8 false []) (.ret)) (.skip))) (.seq (.seq (.reg a48_r9 false []) (.cond (.t 54) (.seq (.reg a48_r10 false []) (.ret)) (.skip))) (.seq (.reg a48_r11 false []) (.seq (.reg a48_r12 false []) (.seq (.seq (.reg a48_r13 false []) (.block 0 (.loop [] a48_l1))) (.seq (.reg a48_r27 false []) (.ret))))))))), [.t 8], []⟩
theorem reads48 : readFn Tryz.prog Tryz.f48 [false, false, false, false] [] [[]] = some a48 := by kernel_rfl
-- impl.MsgOk
def a49_r0 : List AOper := [⟨some 1, .box (.t 0), none⟩,
  ⟨some 2, .mv (.c (.b false)), none⟩]
def a49_r1 : List AOper := [⟨some 3, .fa 1 (.t 1), none⟩,
  ⟨some 4, .ld 1 false (.t 3), none⟩,
  ⟨some 5, .call (.c (.clo 98 [])) [.t 4], none⟩,
  ⟨some 6, .un .not (.t 5), none⟩]
def a49_r2 : List AOper := [⟨some 2, .mv (.c (.b false)), none⟩]
def a49_r3 : List AOper := [⟨some 7, .fa 0 (.t 1), none⟩,
  ⟨some 8, .ld 1 false (.t 7), none⟩]
def a49_r4 : List AOper := [⟨some 10, .bin .eql (.t 8) (.c (.i .i64 1)), none⟩,
  ⟨some 9, .mv (.t 10), none⟩]
def a49_r5 : List AOper := [⟨some 11, .bin .eql (.t 8) (.c (.i .i64 3)), none⟩,
  ⟨some 9, .mv (.t 11), none⟩]
def a49_r6 : List AOper := [⟨some 12, .fa 2 (.t 1), none⟩,
  ⟨some 13, .ld 1 false (.t 12), none⟩,
  ⟨some 14, .call (.c (.clo 99 [])) [.t 13], none⟩,
  ⟨some 2, .mv (.t 14), none⟩]
def a49_r7 : List AOper := [⟨some 16, .bin .eql (.t 8) (.c (.i .i64 2)), none⟩,
  ⟨some 15, .mv (.t 16), none⟩]
def a49_r8 : List AOper := [⟨some 17, .bin .eql (.t 8) (.c (.i .i64 4)), none⟩,
  ⟨some 15, .mv (.t 17), none⟩]
def a49_r9 : List AOper := [⟨some 18, .fa 2 (.t 1), none⟩,
  ⟨some 19, .ld 1 false (.t 18), none⟩,
  ⟨some 20, .bin .eql (.t 19) (.c (.i .i64 0)), none⟩,
  ⟨some 2, .mv (.t 20), none⟩]
def a49_r10 : List AOper := [⟨some 2, .mv (.c (.b false)), none⟩]
def a49 : AFn := ⟨[false], .seq (.reg a49_r0 false []) (.seq (.seq (.reg a49_r1 false []) (.cond (.t 6) (.seq (.reg a49_r2 false []) (.ret)) (.skip))) (.seq (.seq (.reg a49_r3 false []) (.block 0 (.seq (.seq (.reg a49_r4 false []) (.cond (.t 9) (.skip) (.reg a49_r5 false []))) (.cond (.t 9) (.seq (.reg a49_r6 false []) (.ret)) (.seq (.seq (.reg a49_r7 false []) (.cond (.t 15) (.skip) (.reg a49_r8 false []))) (.cond (.t 15) (.seq (.reg a49_r9 false []) (.ret)) (.skip))))))) (.seq (.reg a49_r10 false []) (.ret)))), [.t 2], []⟩
theorem reads49 : readFn Tryz.prog Tryz.f49 [false] [] [] = some a49 := by kernel_rfl
-- impl.copyTree
def a50_r0 : List AOper := [⟨some 1, .box (.t 0), none⟩,
  ⟨some 2, .new [.b false, .emp, .emp, .emp, .emp], none⟩]
def a50_r1 : List AOper := [⟨some 6, .rowOf 5 [.b false, .emp, .emp, .emp, .emp] 0 [], none⟩,
  ⟨some 3, .mv (.t 6), none⟩]
def a50_r2 : List AOper := [⟨some 7, .fa 3 (.t 1), none⟩,
  ⟨some 8, .ld 1 false (.t 7), none⟩,
  ⟨some 9, .len false (.t 8), none⟩,
  ⟨some 10, .mv (.c (.i .i64 0)), none⟩]
def a50_r3 : List AOper := [⟨some 11, .bin .lss (.t 10) (.t 9), none⟩]
def a50_r4 : List AOper := [⟨some 12, .ia 5 (.t 8) (.t 10), none⟩,
  ⟨some 13, .ld 5 true (.t 12), none⟩,
  ⟨some 5, .new [.b false, .emp, .emp, .emp, .emp], none⟩,
  ⟨none, .st 5 (.t 5) (.t 13), none⟩]
def a50_r5 : List AOper := [⟨some 14, .mv (.t 3), none⟩,
  ⟨some 15, .ld 5 true (.t 5), none⟩,
  ⟨some 16, .call (.c (.clo 50 [])) [.t 15], none⟩,
  ⟨some 17, .rowOf 5 [.b false, .emp, .emp, .emp, .emp] 1 [(0, .t 16)], none⟩,
  ⟨some 18, .ap 5 104 (.t 14) (.t 17), none⟩,
  ⟨some 3, .mv (.t 18), none⟩]
def a50_r6 : List AOper := [⟨some 19, .bin .add (.t 10) (.c (.i .i64 1)), none⟩,
  ⟨some 10, .mv (.t 19), none⟩]
def a50_l1 : ACode := .seq (.reg a50_r3 false []) (.seq (.cond (.t 11) (.skip) (.exit 0)) (.seq (.block 1 (.seq (.reg a50_r4 false []) (.reg a50_r5 false []))) (.reg a50_r6 false [])))
def a50_r7 : List AOper := [⟨some 20, .fa 0 (.t 1), none⟩,
  ⟨some 21, .ld 1 false (.t 20), none⟩,
  ⟨some 22, .fa 1 (.t 1), none⟩,
  ⟨some 23, .ld 1 false (.t 22), none⟩,
  ⟨some 24, .call (.c (.clo 53 [])) [.t 23], none⟩,
  ⟨some 25, .fa 2 (.t 1), none⟩,
  ⟨some 26, .ld 1 false (.t 25), none⟩,
  ⟨some 27, .call (.c (.clo 100 [])) [.t 26], none⟩,
  ⟨some 28, .mv (.t 3), none⟩,
  ⟨some 29, .fa 4 (.t 1), none⟩,
  ⟨some 30, .ld 1 false (.t 29), none⟩,
  ⟨some 31, .call (.c (.clo 101 [])) [.t 30], none⟩,
  ⟨some 32, .build [.b false, .emp, .emp, .emp, .emp] [(0, 1, .t 21), (1, 1, .t 24), (2, 1, .t 27), (3, 1, .t 28), (4, 1, .t 31)], none⟩,
  ⟨none, .st 5 (.t 2) (.t 32), none⟩]
def a50 : AFn := ⟨[false], .seq (.reg a50_r0 false []) (.seq (.reg a50_r1 false []) (.seq (.seq (.reg a50_r2 false []) (.block 0 (.loop [] a50_l1))) (.seq (.reg a50_r7 true [(1, 4), (4, 6), (1, 7), (4, 10), (7, 10), (1, 11)]) (.ret)))), [.cell 2 5 true], []⟩
theorem reads50 : readFn Tryz.prog Tryz.f50 [false] [] [[]] = some a50 := by kernel_rfl
-- impl.rooted
def a51_r0 : List AOper := [⟨some 1, .box (.t 0), none⟩,
  ⟨some 2, .new [.b false, .emp, .emp, .emp, .emp], none⟩]
def a51_r1 : List AOper := [⟨some 3, .fa 0 (.t 1), none⟩,
  ⟨some 4, .ld 1 false (.t 3), none⟩,
  ⟨some 5, .len false (.t 4), none⟩,
  ⟨some 6, .bin .gtr (.t 5) (.c (.i .i64 4)), none⟩]
def a51_r2 : List AOper := [⟨some 7, .ld 2 true (.t 1), none⟩,
  ⟨some 8, .call (.c (.clo 102 [])) [.t 7], none⟩,
  ⟨none, .st 2 (.t 1) (.t 8), none⟩]
def a51_l1 : ACode := .seq (.seq (.reg a51_r1 false []) (.cond (.t 6) (.skip) (.exit 0))) (.block 1 (.reg a51_r2 false []))
def a51_r3 : List AOper := [⟨some 9, .fa 0 (.t 1), none⟩,
  ⟨some 10, .ld 1 false (.t 9), none⟩,
  ⟨some 11, .len false (.t 10), none⟩,
  ⟨some 12, .bin .eql (.t 11) (.c (.i .i64 1)), none⟩]
def a51_r4 : List AOper := [⟨some 13, .fa 0 (.t 1), none⟩,
  ⟨some 14, .ld 1 false (.t 13), none⟩,
  ⟨some 15, .ia 5 (.t 14) (.c (.i .i64 0)), none⟩,
  ⟨some 16, .ld 5 true (.t 15), none⟩,
  ⟨none, .st 5 (.t 2) (.t 16), none⟩]
def a51_r5 : List AOper := [⟨some 17, .fa 0 (.t 1), none⟩,
  ⟨some 18, .ld 1 false (.t 17), none⟩,
  ⟨some 19, .fa 1 (.t 1), none⟩,
  ⟨some 20, .ld 1 false (.t 19), none⟩,
  ⟨some 21, .build [.b false, .emp, .emp, .emp, .emp] [(3, 1, .t 18), (2, 1, .t 20)], none⟩,
  ⟨none, .st 5 (.t 2) (.t 21), none⟩]
def a51 : AFn := ⟨[false], .seq (.reg a51_r0 false []) (.seq (.block 0 (.loop [] a51_l1)) (.seq (.seq (.reg a51_r3 false []) (.cond (.t 12) (.seq (.reg a51_r4 false []) (.ret)) (.skip))) (.seq (.reg a51_r5 false []) (.ret)))), [.cell 2 5 true], []⟩
theorem reads51 : readFn Tryz.prog Tryz.f51 [false] [] [[]] = some a51 := by kernel_rfl
-- impl.give
def a52_r0 : List AOper := [⟨some 2, .box (.t 0), none⟩,
  ⟨some 4, .new [.emp, .emp], none⟩]
def a52_r1 : List AOper := [⟨some 10, .fa 0 (.t 2), none⟩,
  ⟨some 11, .ld 1 false (.t 10), none⟩]
def a52_r2 : List AOper := [⟨some 12, .fa 1 (.t 2), none⟩,
  ⟨some 13, .ld 1 false (.t 12), none⟩,
  ⟨some 14, .mv (.t 1), none⟩,
  ⟨some 15, .call (.c (.clo 77 [])) [.t 13, .t 14], none⟩,
  ⟨some 16, .call (.c (.clo 103 [])) [.t 15], none⟩,
  ⟨none, .st 2 (.t 4) (.t 16), none⟩]
def a52_r3 : List AOper := [⟨some 17, .fa 3 (.t 2), none⟩,
  ⟨some 18, .ld 1 false (.t 17), none⟩,
  ⟨some 19, .call (.c (.clo 104 [])) [.t 18], none⟩,
  ⟨some 20, .fa 2 (.t 2), none⟩,
  ⟨some 21, .ld 1 false (.t 20), none⟩,
  ⟨some 22, .call (.c (.clo 100 [])) [.t 21], none⟩,
  ⟨some 23, .build [.emp, .emp] [(0, 1, .t 19), (1, 1, .t 22)], none⟩,
  ⟨some 5, .new [.emp, .emp], none⟩,
  ⟨none, .st 2 (.t 5) (.t 23), none⟩]
def a52_r4 : List AOper := [⟨some 24, .fa 4 (.t 2), none⟩,
  ⟨some 25, .ld 1 false (.t 24), none⟩,
  ⟨some 26, .mv (.t 1), none⟩,
  ⟨some 27, .rowOf 1 [.emp] 2 [(0, .t 25), (1, .t 26)], none⟩,
  ⟨some 28, .call (.c (.clo 106 [])) [.t 27], none⟩,
  ⟨some 29, .call (.c (.clo 105 [])) [.t 28], none⟩,
  ⟨some 6, .mv (.t 29), none⟩]
def a52_r5 : List AOper := [⟨some 30, .mv (.t 6), none⟩,
  ⟨some 31, .len false (.t 30), none⟩,
  ⟨some 32, .bin .gtr (.t 31) (.c (.i .i64 6)), none⟩]
def a52_r6 : List AOper := [⟨some 33, .ld 2 true (.t 5), none⟩,
  ⟨some 34, .mv (.t 6), none⟩,
  ⟨some 35, .call (.c (.clo 107 [])) [.t 33, .t 34], none⟩,
  ⟨some 7, .new [.i .i64 0], none⟩,
  ⟨none, .st 1 (.t 7) (.t 35), none⟩]
def a52_r7 : List AOper := [⟨some 36, .fa 1 (.t 5), none⟩,
  ⟨some 37, .ld 1 false (.t 36), none⟩,
  ⟨some 38, .mv (.t 6), none⟩,
  ⟨some 39, .ld 1 false (.t 7), none⟩,
  ⟨some 40, .call (.c (.clo 108 [])) [.t 37, .t 38, .t 39], none⟩,
  ⟨some 8, .mv (.t 40), none⟩]
def a52_r8 : List AOper := [⟨some 41, .fa 1 (.t 5), none⟩,
  ⟨some 42, .ld 1 false (.t 41), none⟩,
  ⟨some 9, .new [.emp], none⟩,
  ⟨none, .st 1 (.t 9) (.t 42), none⟩]
def a52_r9 : List AOper := [⟨some 43, .mv (.t 6), none⟩,
  ⟨some 44, .mf 110 [.t 9, .t 7], none⟩,
  ⟨some 45, .call (.c (.clo 109 [])) [.t 43, .t 44], none⟩,
  ⟨some 6, .mv (.t 45), none⟩]
def a52_r10 : List AOper := [⟨some 46, .ld 2 true (.t 5), none⟩,
  ⟨some 47, .ld 1 false (.t 7), none⟩,
  ⟨some 48, .fa 0 (.t 5), none⟩,
  ⟨some 49, .ld 1 false (.t 48), none⟩,
  ⟨some 50, .ld 1 false (.t 7), none⟩,
  ⟨some 51, .ia 5 (.t 49) (.t 50), none⟩,
  ⟨some 52, .ld 5 true (.t 51), none⟩,
  ⟨some 53, .mv (.t 8), none⟩,
  ⟨some 54, .call (.c (.clo 52 [])) [.t 52, .t 53], none⟩,
  ⟨some 55, .call (.c (.clo 112 [])) [.t 46, .t 47, .t 54], none⟩,
  ⟨none, .st 2 (.t 5) (.t 55), none⟩]
def a52_l1 : ACode := .seq (.seq (.reg a52_r5 false []) (.cond (.t 32) (.skip) (.exit 0))) (.block 1 (.seq (.reg a52_r6 false []) (.seq (.reg a52_r7 false []) (.seq (.reg a52_r8 false []) (.seq (.reg a52_r9 false []) (.reg a52_r10 true [(0, 8), (1, 8)]))))))
def a52_r11 : List AOper := [⟨some 56, .fa 0 (.t 5), none⟩,
  ⟨some 57, .ld 1 false (.t 56), none⟩,
  ⟨some 58, .len false (.t 57), none⟩,
  ⟨some 59, .bin .gtr (.t 58) (.c (.i .i64 4)), none⟩]
def a52_r12 : List AOper := [⟨some 60, .ld 2 true (.t 5), none⟩,
  ⟨some 61, .mv (.t 6), none⟩,
  ⟨some 62, .call (.c (.clo 113 [])) [.t 60, .t 61], none⟩,
  ⟨some 63, .call (.c (.clo 102 [])) [.t 62], none⟩,
  ⟨none, .st 2 (.t 4) (.t 63), none⟩]
def a52_r13 : List AOper := [⟨some 64, .fa 0 (.t 5), none⟩,
  ⟨some 65, .ld 1 false (.t 64), none⟩,
  ⟨some 66, .fa 1 (.t 5), none⟩,
  ⟨some 67, .ld 1 false (.t 66), none⟩,
  ⟨some 68, .mv (.t 6), none⟩,
  ⟨some 69, .build [.b false, .emp, .emp, .emp, .emp] [(3, 1, .t 65), (2, 1, .t 67), (4, 1, .t 68)], none⟩,
  ⟨some 70, .rowOf 5 [.b false, .emp, .emp, .emp, .emp] 1 [(0, .t 69)], none⟩,
  ⟨some 71, .build [.emp, .emp] [(0, 1, .t 70)], none⟩,
  ⟨none, .st 2 (.t 4) (.t 71), none⟩]
def a52 : AFn := ⟨[false, false], .seq (.reg a52_r0 false []) (.seq (.seq (.reg a52_r1 false []) (.cond (.t 11) (.seq (.reg a52_r2 false []) (.ret)) (.skip))) (.seq (.reg a52_r3 true [(2, 4), (1, 7), (2, 7), (4, 7), (5, 7)]) (.seq (.reg a52_r4 false []) (.seq (.block 0 (.loop [] a52_l1)) (.seq (.seq (.reg a52_r11 false []) (.cond (.t 59) (.seq (.reg a52_r12 false []) (.ret)) (.skip))) (.seq (.reg a52_r13 false []) (.ret))))))), [.cell 4 2 true], []⟩
theorem reads52 : readFn Tryz.prog Tryz.f52 [false, false] [] [[]] = some a52 := by kernel_rfl
-- slices.Clone[[]impl.Pair,impl.Pair]
def a53_r0 : List AOper := [⟨some 2, .mv (.c (.emp)), none⟩]
def a53_r1 : List AOper := [⟨some 3, .mv (.t 0), none⟩,
  ⟨some 4, .eqn false (.t 3), none⟩]
def a53_r2 : List AOper := [⟨some 2, .mv (.c (.emp)), none⟩]
def a53_r3 : List AOper := [⟨some 5, .rowOf 2 [.i .i64 0, .i .i64 0] 0 [], none⟩,
  ⟨some 6, .mv (.t 0), none⟩,
  ⟨some 7, .ap 2 16 (.t 5) (.t 6), none⟩,
  ⟨some 2, .mv (.t 7), none⟩]
def a53 : AFn := ⟨[false], .seq (.reg a53_r0 false []) (.seq (.seq (.reg a53_r1 false []) (.cond (.t 4) (.seq (.reg a53_r2 false []) (.ret)) (.skip))) (.seq (.reg a53_r3 false []) (.ret))), [.t 2], []⟩
theorem reads53 : readFn Tryz.prog Tryz.f53 [false] [] [] = some a53 := by kernel_rfl
-- impl.MapOk
def a54_r0 : List AOper := [⟨some 2, .mv (.c (.b false)), none⟩]
def a54_r1 : List AOper := [⟨some 5, .mv (.t 0), none⟩,
  ⟨some 6, .len false (.t 5), none⟩,
  ⟨some 7, .mv (.c (.i .i64 0)), none⟩]
def a54_r2 : List AOper := [⟨some 8, .bin .lss (.t 7) (.t 6), none⟩]
def a54_r3 : List AOper := [⟨some 9, .mv (.t 7), none⟩,
  ⟨some 10, .ia 2 (.t 5) (.t 7), none⟩,
  ⟨some 11, .ld 2 true (.t 10), none⟩,
  ⟨some 4, .new [.i .i64 0, .i .i64 0], none⟩,
  ⟨some 3, .mv (.t 9), none⟩,
  ⟨none, .st 2 (.t 4) (.t 11), none⟩]
def a54_r4 : List AOper := [⟨some 12, .fa 0 (.t 4), none⟩,
  ⟨some 13, .ld 1 false (.t 12), none⟩,
  ⟨some 14, .call (.c (.clo 98 [])) [.t 13], none⟩,
  ⟨some 15, .un .not (.t 14), none⟩,
  ⟨some 16, .mv (.t 15), none⟩,
  ⟨some 17, .fa 1 (.t 4), some (16, false)⟩,
  ⟨some 18, .ld 1 false (.t 17), some (16, false)⟩,
  ⟨some 19, .call (.c (.clo 99 [])) [.t 18], some (16, false)⟩,
  ⟨some 20, .un .not (.t 19), some (16, false)⟩,
  ⟨some 21, .pick (.t 16) (.c (.b true)) (.t 20), none⟩,
  ⟨some 22, .mv (.t 21), none⟩,
  ⟨some 23, .mv (.t 3), some (22, false)⟩,
  ⟨some 24, .bin .gtr (.t 23) (.c (.i .i64 0)), some (22, false)⟩,
  ⟨some 25, .mv (.t 24), some (22, false)⟩,
  ⟨some 26, .mv (.t 0), some (25, true)⟩,
  ⟨some 27, .mv (.t 3), some (25, true)⟩,
  ⟨some 28, .bin .sub (.t 27) (.c (.i .i64 1)), some (25, true)⟩,
  ⟨some 29, .ia 2 (.t 26) (.t 28), some (25, true)⟩,
  ⟨some 30, .fa 0 (.t 29), some (25, true)⟩,
  ⟨some 31, .ld 1 false (.t 30), some (25, true)⟩,
  ⟨some 32, .fa 0 (.t 4), some (25, true)⟩,
  ⟨some 33, .ld 1 false (.t 32), some (25, true)⟩,
  ⟨some 34, .bin .geq (.t 31) (.t 33), some (25, true)⟩,
  ⟨some 35, .pick (.t 25) (.t 34) (.c (.b false)), some (22, false)⟩,
  ⟨some 36, .pick (.t 22) (.c (.b true)) (.t 35), none⟩]
def a54_r5 : List AOper := [⟨some 2, .mv (.c (.b false)), none⟩]
def a54_r6 : List AOper := [⟨some 37, .bin .add (.t 7) (.c (.i .i64 1)), none⟩,
  ⟨some 7, .mv (.t 37), none⟩]
def a54_l1 : ACode := .seq (.reg a54_r2 false []) (.seq (.cond (.t 8) (.skip) (.exit 0)) (.seq (.block 1 (.seq (.reg a54_r3 false []) (.seq (.reg a54_r4 true []) (.cond (.t 36) (.seq (.reg a54_r5 false []) (.ret)) (.skip))))) (.reg a54_r6 false [])))
def a54_r7 : List AOper := [⟨some 2, .mv (.c (.b true)), none⟩]
def a54 : AFn := ⟨[false], .seq (.reg a54_r0 false []) (.seq (.seq (.reg a54_r1 false []) (.block 0 (.loop [] a54_l1))) (.seq (.reg a54_r7 false []) (.ret))), [.t 2], []⟩
theorem reads54 : readFn Tryz.prog Tryz.f54 [false] [] [[]] = some a54 := by kernel_rfl
-- impl.changed
def a55_r0 : List AOper := [⟨some 3, .box (.t 1), none⟩,
  ⟨some 4, .mv (.c (.emp)), none⟩]
def a55_r1 : List AOper := [⟨some 9, .mv (.t 0), none⟩,
  ⟨some 10, .fa 1 (.t 3), none⟩,
  ⟨some 11, .ld 1 false (.t 10), none⟩,
  ⟨some 12, .call (.c (.clo 114 [])) [.t 9, .t 11, .c (.clo 115 [])], none⟩,
  ⟨some 8, .mv (.t 12), none⟩,
  ⟨some 13, .ex (.t 8) 0, none⟩,
  ⟨some 14, .ex (.t 8) 1, none⟩,
  ⟨some 5, .mv (.t 13), none⟩,
  ⟨some 6, .mv (.t 14), none⟩]
def a55_r2 : List AOper := [⟨some 15, .fa 2 (.t 3), none⟩,
  ⟨some 16, .ld 1 false (.t 15), none⟩,
  ⟨some 7, .mv (.t 16), none⟩]
def a55_r3 : List AOper := [⟨some 18, .fa 0 (.t 3), none⟩,
  ⟨some 19, .ld 1 false (.t 18), none⟩,
  ⟨some 20, .bin .eql (.t 19) (.c (.i .i64 4)), none⟩,
  ⟨some 17, .mv (.t 20), none⟩]
def a55_r4 : List AOper := [⟨some 21, .mv (.t 0), none⟩,
  ⟨some 4, .mv (.t 21), none⟩]
def a55_r5 : List AOper := [⟨some 23, .fa 0 (.t 3), none⟩,
  ⟨some 24, .ld 1 false (.t 23), none⟩,
  ⟨some 25, .bin .eql (.t 24) (.c (.i .i64 2)), none⟩,
  ⟨some 26, .mv (.t 25), none⟩,
  ⟨some 27, .mv (.t 6), some (26, true)⟩,
  ⟨some 28, .pick (.t 26) (.t 27) (.c (.b false)), none⟩,
  ⟨some 22, .mv (.t 28), none⟩]
def a55_r6 : List AOper := [⟨some 29, .mv (.t 0), none⟩,
  ⟨some 30, .mv (.t 5), none⟩,
  ⟨some 31, .mv (.t 5), none⟩,
  ⟨some 32, .bin .add (.t 31) (.c (.i .i64 1)), none⟩,
  ⟨some 33, .call (.c (.clo 116 [])) [.t 29, .t 30, .t 32], none⟩,
  ⟨some 4, .mv (.t 33), none⟩]
def a55_r7 : List AOper := [⟨some 35, .fa 0 (.t 3), none⟩,
  ⟨some 36, .ld 1 false (.t 35), none⟩,
  ⟨some 37, .bin .eql (.t 36) (.c (.i .i64 2)), none⟩,
  ⟨some 34, .mv (.t 37), none⟩]
def a55_r8 : List AOper := [⟨some 38, .mv (.t 0), none⟩,
  ⟨some 4, .mv (.t 38), none⟩]
def a55_r9 : List AOper := [⟨some 40, .fa 0 (.t 3), none⟩,
  ⟨some 41, .ld 1 false (.t 40), none⟩,
  ⟨some 42, .bin .eql (.t 41) (.c (.i .i64 3)), none⟩,
  ⟨some 43, .mv (.t 42), none⟩,
  ⟨some 44, .mv (.t 6), some (43, true)⟩,
  ⟨some 45, .pick (.t 43) (.t 44) (.c (.b false)), none⟩,
  ⟨some 39, .mv (.t 45), none⟩]
def a55_r10 : List AOper := [⟨some 46, .mv (.t 0), none⟩,
  ⟨some 47, .mv (.t 5), none⟩,
  ⟨some 48, .ia 2 (.t 46) (.t 47), none⟩,
  ⟨some 49, .fa 1 (.t 48), none⟩,
  ⟨some 50, .ld 1 false (.t 49), none⟩,
  ⟨some 51, .fa 2 (.t 3), none⟩,
  ⟨some 52, .ld 1 false (.t 51), none⟩,
  ⟨some 53, .bin .add (.t 50) (.t 52), none⟩,
  ⟨some 54, .call (.c (.clo 117 [])) [.t 53], none⟩,
  ⟨some 7, .mv (.t 54), none⟩]
def a55_r11 : List AOper := [⟨some 55, .mv (.t 6), none⟩]
def a55_r12 : List AOper := [⟨some 56, .mv (.t 0), none⟩,
  ⟨some 57, .mv (.t 5), none⟩,
  ⟨some 58, .mv (.t 7), none⟩,
  ⟨some 59, .ia 2 (.t 56) (.t 57), none⟩,
  ⟨some 60, .fa 1 (.t 59), none⟩,
  ⟨none, .st 1 (.t 60) (.t 58), none⟩]
def a55_r13 : List AOper := [⟨some 61, .mv (.t 0), none⟩,
  ⟨some 4, .mv (.t 61), none⟩]
def a55_r14 : List AOper := [⟨some 62, .mv (.t 0), none⟩,
  ⟨some 63, .mv (.t 5), none⟩,
  ⟨some 64, .fa 1 (.t 3), none⟩,
  ⟨some 65, .ld 1 false (.t 64), none⟩,
  ⟨some 66, .mv (.t 7), none⟩,
  ⟨some 67, .build [.i .i64 0, .i .i64 0] [(0, 1, .t 65), (1, 1, .t 66)], none⟩,
  ⟨some 68, .rowOf 2 [.i .i64 0, .i .i64 0] 1 [(0, .t 67)], none⟩,
  ⟨some 69, .call (.c (.clo 118 [])) [.t 62, .t 63, .t 68], none⟩,
  ⟨some 4, .mv (.t 69), none⟩]
def a55 : AFn := ⟨[true, false], .seq (.reg a55_r0 false []) (.seq (.reg a55_r1 false []) (.seq (.reg a55_r2 false []) (.seq (.block 0 (.seq (.reg a55_r3 false []) (.cond (.t 17) (.seq (.reg a55_r4 false []) (.ret)) (.seq (.reg a55_r5 false []) (.cond (.t 22) (.seq (.reg a55_r6 false []) (.ret)) (.seq (.reg a55_r7 false []) (.cond (.t 34) (.seq (.reg a55_r8 false []) (.ret)) (.seq (.reg a55_r9 false []) (.cond (.t 39) (.reg a55_r10 true []) (.skip)))))))))) (.seq (.seq (.reg a55_r11 false []) (.cond (.t 55) (.seq (.reg a55_r12 false []) (.seq (.reg a55_r13 false []) (.ret))) (.skip))) (.seq (.reg a55_r14 false []) (.ret)))))), [.t 4], []⟩
theorem reads55 : readFn Tryz.prog Tryz.f55 [true, false] [] [] = some a55 := by kernel_rfl
-- impl.treeMap
def a56_r0 : List AOper := [⟨some 1, .box (.t 0), none⟩,
  ⟨some 2, .mv (.c (.emp)), none⟩]
def a56_r1 : List AOper := [⟨some 6, .fa 0 (.t 1), none⟩,
  ⟨some 7, .ld 1 false (.t 6), none⟩]
def a56_r2 : List AOper := [⟨some 8, .rowOf 2 [.i .i64 0, .i .i64 0] 0 [], none⟩,
  ⟨some 9, .fa 1 (.t 1), none⟩,
  ⟨some 10, .ld 1 false (.t 9), none⟩,
  ⟨some 11, .ap 2 16 (.t 8) (.t 10), none⟩,
  ⟨some 2, .mv (.t 11), none⟩]
def a56_r3 : List AOper := [⟨some 12, .rowOf 2 [.i .i64 0, .i .i64 0] 0 [], none⟩,
  ⟨some 3, .mv (.t 12), none⟩]
def a56_r4 : List AOper := [⟨some 13, .fa 3 (.t 1), none⟩,
  ⟨some 14, .ld 1 false (.t 13), none⟩,
  ⟨some 15, .len false (.t 14), none⟩,
  ⟨some 16, .mv (.c (.i .i64 0)), none⟩]
def a56_r5 : List AOper := [⟨some 17, .bin .lss (.t 16) (.t 15), none⟩]
def a56_r6 : List AOper := [⟨some 18, .ia 5 (.t 14) (.t 16), none⟩,
  ⟨some 19, .ld 5 true (.t 18), none⟩,
  ⟨some 5, .new [.b false, .emp, .emp, .emp, .emp], none⟩,
  ⟨none, .st 5 (.t 5) (.t 19), none⟩]
def a56_r7 : List AOper := [⟨some 20, .mv (.t 3), none⟩,
  ⟨some 21, .ld 5 true (.t 5), none⟩,
  ⟨some 22, .call (.c (.clo 56 [])) [.t 21], none⟩,
  ⟨some 23, .ap 2 16 (.t 20) (.t 22), none⟩,
  ⟨some 3, .mv (.t 23), none⟩]
def a56_r8 : List AOper := [⟨some 24, .bin .add (.t 16) (.c (.i .i64 1)), none⟩,
  ⟨some 16, .mv (.t 24), none⟩]
def a56_l1 : ACode := .seq (.reg a56_r5 false []) (.seq (.cond (.t 17) (.skip) (.exit 0)) (.seq (.block 1 (.seq (.reg a56_r6 false []) (.reg a56_r7 false []))) (.reg a56_r8 false [])))
def a56_r9 : List AOper := [⟨some 25, .mv (.t 3), none⟩,
  ⟨some 26, .fa 4 (.t 1), none⟩,
  ⟨some 27, .ld 1 false (.t 26), none⟩,
  ⟨some 28, .call (.c (.clo 77 [])) [.t 25, .t 27], none⟩,
  ⟨some 2, .mv (.t 28), none⟩]
def a56 : AFn := ⟨[false], .seq (.reg a56_r0 false []) (.seq (.seq (.reg a56_r1 false []) (.cond (.t 7) (.seq (.reg a56_r2 false []) (.ret)) (.skip))) (.seq (.reg a56_r3 false []) (.seq (.seq (.reg a56_r4 false []) (.block 0 (.loop [] a56_l1))) (.seq (.reg a56_r9 false []) (.ret))))), [.t 2], []⟩
theorem reads56 : readFn Tryz.prog Tryz.f56 [false] [] [[]] = some a56 := by kernel_rfl
-- spec.MsgOk
def a57_r0 : List AOper := [⟨some 1, .box (.t 0), none⟩,
  ⟨some 2, .mv (.c (.b false)), none⟩]
def a57_r1 : List AOper := [⟨some 3, .fa 0 (.t 1), none⟩,
  ⟨some 4, .ld 1 false (.t 3), none⟩,
  ⟨some 5, .call (.c (.clo 119 [])) [.t 4, .c (.i .i64 1), .c (.i .i64 4)], none⟩,
  ⟨some 6, .un .not (.t 5), none⟩,
  ⟨some 7, .mv (.t 6), none⟩,
  ⟨some 8, .fa 1 (.t 1), some (7, false)⟩,
  ⟨some 9, .ld 1 false (.t 8), some (7, false)⟩,
  ⟨some 10, .call (.c (.clo 119 [])) [.t 9, .c (.i .i64 0), .c (.i .i64 999)], some (7, false)⟩,
  ⟨some 11, .un .not (.t 10), some (7, false)⟩,
  ⟨some 12, .pick (.t 7) (.c (.b true)) (.t 11), none⟩,
  ⟨some 13, .mv (.t 12), none⟩,
  ⟨some 14, .fa 2 (.t 1), some (13, false)⟩,
  ⟨some 15, .ld 1 false (.t 14), some (13, false)⟩,
  ⟨some 16, .call (.c (.clo 120 [])) [.t 15], some (13, false)⟩,
  ⟨some 17, .un .not (.t 16), some (13, false)⟩,
  ⟨some 18, .pick (.t 13) (.c (.b true)) (.t 17), none⟩]
def a57_r2 : List AOper := [⟨some 2, .mv (.c (.b false)), none⟩]
def a57_r3 : List AOper := [⟨some 19, .fa 2 (.t 1), none⟩,
  ⟨some 20, .ld 1 false (.t 19), none⟩,
  ⟨some 21, .bin .eql (.t 20) (.c (.i .i64 0)), none⟩,
  ⟨some 22, .mv (.t 21), none⟩,
  ⟨some 23, .fa 0 (.t 1), some (22, false)⟩,
  ⟨some 24, .ld 1 false (.t 23), some (22, false)⟩,
  ⟨some 25, .bin .eql (.t 24) (.c (.i .i64 1)), some (22, false)⟩,
  ⟨some 26, .pick (.t 22) (.c (.b true)) (.t 25), none⟩,
  ⟨some 27, .mv (.t 26), none⟩,
  ⟨some 28, .fa 0 (.t 1), some (27, false)⟩,
  ⟨some 29, .ld 1 false (.t 28), some (27, false)⟩,
  ⟨some 30, .bin .eql (.t 29) (.c (.i .i64 3)), some (27, false)⟩,
  ⟨some 31, .pick (.t 27) (.c (.b true)) (.t 30), none⟩,
  ⟨some 2, .mv (.t 31), none⟩]
def a57 : AFn := ⟨[false], .seq (.reg a57_r0 false []) (.seq (.seq (.reg a57_r1 false []) (.cond (.t 18) (.seq (.reg a57_r2 false []) (.ret)) (.skip))) (.seq (.reg a57_r3 false []) (.ret))), [.t 2], []⟩
theorem reads57 : readFn Tryz.prog Tryz.f57 [false] [] [] = some a57 := by kernel_rfl
-- spec.l2Copy
def a58_r0 : List AOper := [⟨some 1, .box (.t 0), none⟩,
  ⟨some 2, .new [.b false, .emp, .emp, .emp, .emp], none⟩]
def a58_r1 : List AOper := [⟨some 5, .fa 0 (.t 1), none⟩,
  ⟨some 6, .ld 1 false (.t 5), none⟩,
  ⟨some 7, .rowOf 2 [.i .i64 0, .i .i64 0] 0 [], none⟩,
  ⟨some 8, .fa 1 (.t 1), none⟩,
  ⟨some 9, .ld 1 false (.t 8), none⟩,
  ⟨some 10, .ap 2 16 (.t 7) (.t 9), none⟩,
  ⟨some 11, .rowOf 1 [.i .i64 0] 0 [], none⟩,
  ⟨some 12, .fa 2 (.t 1), none⟩,
  ⟨some 13, .ld 1 false (.t 12), none⟩,
  ⟨some 14, .ap 1 8 (.t 11) (.t 13), none⟩,
  ⟨some 15, .rowOf 3 [.i .i64 0, .i .i64 0, .i .i64 0] 0 [], none⟩,
  ⟨some 16, .fa 4 (.t 1), none⟩,
  ⟨some 17, .ld 1 false (.t 16), none⟩,
  ⟨some 18, .ap 3 24 (.t 15) (.t 17), none⟩,
  ⟨some 19, .build [.b false, .emp, .emp, .emp, .emp] [(0, 1, .t 6), (1, 1, .t 10), (2, 1, .t 14), (4, 1, .t 18)], none⟩,
  ⟨some 3, .new [.b false, .emp, .emp, .emp, .emp], none⟩,
  ⟨none, .st 5 (.t 3) (.t 19), none⟩]
def a58_r2 : List AOper := [⟨some 4, .mv (.c (.i .i64 0)), none⟩]
def a58_r3 : List AOper := [⟨some 20, .mv (.t 4), none⟩,
  ⟨some 21, .fa 3 (.t 1), none⟩,
  ⟨some 22, .ld 1 false (.t 21), none⟩,
  ⟨some 23, .len false (.t 22), none⟩,
  ⟨some 24, .bin .lss (.t 20) (.t 23), none⟩]
def a58_r5 : List AOper := [⟨some 27, .fa 3 (.t 3), none⟩,
  ⟨some 28, .ld 1 false (.t 27), none⟩,
  ⟨some 29, .fa 3 (.t 1), none⟩,
  ⟨some 30, .ld 1 false (.t 29), none⟩,
  ⟨some 31, .mv (.t 4), none⟩,
  ⟨some 32, .ia 5 (.t 30) (.t 31), none⟩,
  ⟨some 33, .ld 5 true (.t 32), none⟩,
  ⟨some 34, .call (.c (.clo 58 [])) [.t 33], none⟩,
  ⟨some 35, .rowOf 5 [.b false, .emp, .emp, .emp, .emp] 1 [(0, .t 34)], none⟩,
  ⟨some 36, .ap 5 104 (.t 28) (.t 35), none⟩,
  ⟨some 37, .fa 3 (.t 3), none⟩,
  ⟨none, .st 1 (.t 37) (.t 36), none⟩]
def a58_r4 : List AOper := [⟨some 25, .mv (.t 4), none⟩,
  ⟨some 26, .bin .add (.t 25) (.c (.i .i64 1)), none⟩,
  ⟨some 4, .mv (.t 26), none⟩]
def a58_l1 : ACode := .seq (.seq (.reg a58_r3 false []) (.cond (.t 24) (.skip) (.exit 0))) (.seq (.block 1 (.reg a58_r5 true [(1, 7), (1, 8)])) (.reg a58_r4 false []))
def a58_r6 : List AOper := [⟨some 38, .ld 5 true (.t 3), none⟩,
  ⟨none, .st 5 (.t 2) (.t 38), none⟩]
def a58 : AFn := ⟨[false], .seq (.reg a58_r0 false []) (.seq (.reg a58_r1 true [(1, 2), (2, 4), (1, 5), (1, 6), (2, 6), (4, 6), (5, 6), (2, 8), (5, 8), (6, 8), (1, 9), (1, 10), (2, 10), (4, 10), (5, 10), (6, 10), (8, 10), (9, 10), (2, 12), (5, 12), (6, 12), (9, 12), (10, 12), (1, 13), (1, 15), (2, 15), (4, 15), (5, 15), (6, 15), (8, 15), (9, 15), (10, 15), (12, 15), (13, 15)]) (.seq (.seq (.reg a58_r2 false []) (.block 0 (.loop [] a58_l1))) (.seq (.reg a58_r6 false []) (.ret)))), [.cell 2 5 true], []⟩
theorem reads58 : readFn Tryz.prog Tryz.f58 [false] [] [[]] = some a58 := by kernel_rfl
-- spec.l4Root
def a59_r0 : List AOper := [⟨some 1, .box (.t 0), none⟩,
  ⟨some 2, .new [.b false, .emp, .emp, .emp, .emp], none⟩]
def a59_r1 : List AOper := [⟨some 3, .fa 0 (.t 1), none⟩,
  ⟨some 4, .ld 1 false (.t 3), none⟩,
  ⟨some 5, .len false (.t 4), none⟩,
  ⟨some 6, .bin .gtr (.t 5) (.c (.i .i64 4)), none⟩]
def a59_r2 : List AOper := [⟨some 7, .ld 2 true (.t 1), none⟩,
  ⟨some 8, .call (.c (.clo 121 [])) [.t 7], none⟩,
  ⟨none, .st 2 (.t 1) (.t 8), none⟩]
def a59_l1 : ACode := .seq (.seq (.reg a59_r1 false []) (.cond (.t 6) (.skip) (.exit 0))) (.block 1 (.reg a59_r2 false []))
def a59_r3 : List AOper := [⟨some 9, .fa 0 (.t 1), none⟩,
  ⟨some 10, .ld 1 false (.t 9), none⟩,
  ⟨some 11, .len false (.t 10), none⟩,
  ⟨some 12, .bin .eql (.t 11) (.c (.i .i64 1)), none⟩]
def a59_r4 : List AOper := [⟨some 13, .fa 0 (.t 1), none⟩,
  ⟨some 14, .ld 1 false (.t 13), none⟩,
  ⟨some 15, .ia 5 (.t 14) (.c (.i .i64 0)), none⟩,
  ⟨some 16, .ld 5 true (.t 15), none⟩,
  ⟨none, .st 5 (.t 2) (.t 16), none⟩]
def a59_r5 : List AOper := [⟨some 17, .fa 0 (.t 1), none⟩,
  ⟨some 18, .ld 1 false (.t 17), none⟩,
  ⟨some 19, .fa 1 (.t 1), none⟩,
  ⟨some 20, .ld 1 false (.t 19), none⟩,
  ⟨some 21, .build [.b false, .emp, .emp, .emp, .emp] [(3, 1, .t 18), (2, 1, .t 20)], none⟩,
  ⟨none, .st 5 (.t 2) (.t 21), none⟩]
def a59 : AFn := ⟨[false], .seq (.reg a59_r0 false []) (.seq (.block 0 (.loop [] a59_l1)) (.seq (.seq (.reg a59_r3 false []) (.cond (.t 12) (.seq (.reg a59_r4 false []) (.ret)) (.skip))) (.seq (.reg a59_r5 false []) (.ret)))), [.cell 2 5 true], []⟩
theorem reads59 : readFn Tryz.prog Tryz.f59 [false] [] [[]] = some a59 := by kernel_rfl
-- spec.l4Give
def a60_r0 : List AOper := [⟨some 2, .box (.t 0), none⟩,
  ⟨some 4, .new [.emp, .emp], none⟩]
def a60_r1 : List AOper := [⟨some 10, .fa 0 (.t 2), none⟩,
  ⟨some 11, .ld 1 false (.t 10), none⟩]
def a60_r2 : List AOper := [⟨some 12, .fa 1 (.t 2), none⟩,
  ⟨some 13, .ld 1 false (.t 12), none⟩,
  ⟨some 14, .mv (.t 1), none⟩,
  ⟨some 15, .call (.c (.clo 123 [])) [.t 13, .t 14], none⟩,
  ⟨some 16, .call (.c (.clo 122 [])) [.t 15], none⟩,
  ⟨none, .st 2 (.t 4) (.t 16), none⟩]
def a60_r3 : List AOper := [⟨some 17, .rowOf 3 [.i .i64 0, .i .i64 0, .i .i64 0] 0 [], none⟩,
  ⟨some 18, .fa 4 (.t 2), none⟩,
  ⟨some 19, .ld 1 false (.t 18), none⟩,
  ⟨some 20, .ap 3 24 (.t 17) (.t 19), none⟩,
  ⟨some 21, .mv (.t 1), none⟩,
  ⟨some 22, .ap 3 24 (.t 20) (.t 21), none⟩,
  ⟨some 23, .call (.c (.clo 124 [])) [.t 22], none⟩,
  ⟨some 5, .mv (.t 23), none⟩]
def a60_r4 : List AOper := [⟨some 24, .fa 3 (.t 2), none⟩,
  ⟨some 25, .ld 1 false (.t 24), none⟩,
  ⟨some 26, .fa 2 (.t 2), none⟩,
  ⟨some 27, .ld 1 false (.t 26), none⟩,
  ⟨some 28, .build [.emp, .emp] [(0, 1, .t 25), (1, 1, .t 27)], none⟩,
  ⟨some 6, .new [.emp, .emp], none⟩,
  ⟨none, .st 2 (.t 6) (.t 28), none⟩]
def a60_r5 : List AOper := [⟨some 29, .mv (.t 5), none⟩,
  ⟨some 30, .len false (.t 29), none⟩,
  ⟨some 31, .bin .gtr (.t 30) (.c (.i .i64 6)), none⟩]
def a60_r6 : List AOper := [⟨some 32, .ld 2 true (.t 6), none⟩,
  ⟨some 33, .mv (.t 5), none⟩,
  ⟨some 34, .call (.c (.clo 125 [])) [.t 32, .t 33], none⟩,
  ⟨some 7, .mv (.t 34), none⟩]
def a60_r7 : List AOper := [⟨some 36, .ld 2 true (.t 6), none⟩,
  ⟨some 37, .mv (.t 5), none⟩,
  ⟨some 38, .mv (.t 7), none⟩,
  ⟨some 39, .call (.c (.clo 126 [])) [.t 36, .t 37, .t 38], none⟩,
  ⟨some 35, .mv (.t 39), none⟩,
  ⟨some 40, .ex (.t 35) 0, none⟩,
  ⟨some 41, .ex (.t 35) 1, none⟩,
  ⟨some 8, .mv (.t 40), none⟩,
  ⟨some 9, .mv (.t 41), none⟩]
def a60_r8 : List AOper := [⟨some 42, .mv (.t 9), none⟩,
  ⟨some 5, .mv (.t 42), none⟩]
def a60_r9 : List AOper := [⟨some 43, .ld 2 true (.t 6), none⟩,
  ⟨some 44, .mv (.t 7), none⟩,
  ⟨some 45, .fa 0 (.t 6), none⟩,
  ⟨some 46, .ld 1 false (.t 45), none⟩,
  ⟨some 47, .mv (.t 7), none⟩,
  ⟨some 48, .ia 5 (.t 46) (.t 47), none⟩,
  ⟨some 49, .ld 5 true (.t 48), none⟩,
  ⟨some 50, .mv (.t 8), none⟩,
  ⟨some 51, .call (.c (.clo 60 [])) [.t 49, .t 50], none⟩,
  ⟨some 52, .call (.c (.clo 127 [])) [.t 43, .t 44, .t 51], none⟩,
  ⟨none, .st 2 (.t 6) (.t 52), none⟩]
def a60_l1 : ACode := .seq (.seq (.reg a60_r5 false []) (.cond (.t 31) (.skip) (.exit 0))) (.block 1 (.seq (.reg a60_r6 false []) (.seq (.reg a60_r7 false []) (.seq (.reg a60_r8 false []) (.reg a60_r9 true [(0, 8)])))))
def a60_r10 : List AOper := [⟨some 53, .fa 0 (.t 6), none⟩,
  ⟨some 54, .ld 1 false (.t 53), none⟩,
  ⟨some 55, .len false (.t 54), none⟩,
  ⟨some 56, .bin .gtr (.t 55) (.c (.i .i64 4)), none⟩]
def a60_r11 : List AOper := [⟨some 57, .ld 2 true (.t 6), none⟩,
  ⟨some 58, .mv (.t 5), none⟩,
  ⟨some 59, .call (.c (.clo 128 [])) [.t 57, .t 58], none⟩,
  ⟨some 60, .call (.c (.clo 121 [])) [.t 59], none⟩,
  ⟨none, .st 2 (.t 4) (.t 60), none⟩]
def a60_r12 : List AOper := [⟨some 61, .fa 0 (.t 6), none⟩,
  ⟨some 62, .ld 1 false (.t 61), none⟩,
  ⟨some 63, .fa 1 (.t 6), none⟩,
  ⟨some 64, .ld 1 false (.t 63), none⟩,
  ⟨some 65, .mv (.t 5), none⟩,
  ⟨some 66, .build [.b false, .emp, .emp, .emp, .emp] [(3, 1, .t 62), (2, 1, .t 64), (4, 1, .t 65)], none⟩,
  ⟨some 67, .rowOf 5 [.b false, .emp, .emp, .emp, .emp] 1 [(0, .t 66)], none⟩,
  ⟨some 68, .build [.emp, .emp] [(0, 1, .t 67)], none⟩,
  ⟨none, .st 2 (.t 4) (.t 68), none⟩]
def a60 : AFn := ⟨[false, false], .seq (.reg a60_r0 false []) (.seq (.seq (.reg a60_r1 false []) (.cond (.t 11) (.seq (.reg a60_r2 false []) (.ret)) (.skip))) (.seq (.reg a60_r3 false []) (.seq (.reg a60_r4 false []) (.seq (.block 0 (.loop [] a60_l1)) (.seq (.seq (.reg a60_r10 false []) (.cond (.t 56) (.seq (.reg a60_r11 false []) (.ret)) (.skip))) (.seq (.reg a60_r12 false []) (.ret))))))), [.cell 4 2 true], []⟩
theorem reads60 : readFn Tryz.prog Tryz.f60 [false, false] [] [[]] = some a60 := by kernel_rfl
-- spec.l2Draw
def a61_r0 : List AOper := [⟨some 4, .new [.b false, .emp, .emp, .emp, .emp], none⟩]
def a61_r1 : List AOper := [⟨some 7, .mv (.t 0), none⟩,
  ⟨some 8, .mv (.t 1), none⟩,
  ⟨some 9, .call (.c (.clo 129 [])) [.t 7, .t 8], none⟩,
  ⟨some 5, .new [.b false, .emp, .emp, .emp, .emp], none⟩,
  ⟨none, .st 5 (.t 5) (.t 9), none⟩]
def a61_r2 : List AOper := [⟨some 10, .mv (.t 0), none⟩,
  ⟨some 11, .call (.c (.clo 90 [])) [.t 10, .c (.i .i64 25)], none⟩]
def a61_r3 : List AOper := [⟨some 13, .bin .eql (.t 11) (.c (.i .i64 0)), none⟩,
  ⟨some 12, .mv (.t 13), none⟩]
def a61_r4 : List AOper := [⟨some 14, .fa 0 (.t 5), none⟩,
  ⟨some 15, .ld 1 false (.t 14), none⟩,
  ⟨some 16, .un .not (.t 15), none⟩,
  ⟨some 17, .fa 0 (.t 5), none⟩,
  ⟨none, .st 1 (.t 17) (.t 16), none⟩]
def a61_r5 : List AOper := [⟨some 19, .bin .eql (.t 11) (.c (.i .i64 1)), none⟩,
  ⟨some 18, .mv (.t 19), none⟩]
def a61_r6 : List AOper := [⟨some 20, .fa 4 (.t 5), none⟩,
  ⟨some 21, .ld 1 false (.t 20), none⟩,
  ⟨some 22, .mv (.t 0), none⟩,
  ⟨some 23, .call (.c (.clo 62 [])) [.t 22], none⟩,
  ⟨some 24, .rowOf 3 [.i .i64 0, .i .i64 0, .i .i64 0] 1 [(0, .t 23)], none⟩,
  ⟨some 25, .ap 3 24 (.t 21) (.t 24), none⟩,
  ⟨some 26, .fa 4 (.t 5), none⟩,
  ⟨none, .st 1 (.t 26) (.t 25), none⟩]
def a61_r7 : List AOper := [⟨some 28, .bin .eql (.t 11) (.c (.i .i64 2)), none⟩,
  ⟨some 27, .mv (.t 28), none⟩]
def a61_r8 : List AOper := [⟨some 29, .fa 1 (.t 5), none⟩,
  ⟨some 30, .ld 1 false (.t 29), none⟩,
  ⟨some 31, .mv (.t 0), none⟩,
  ⟨some 32, .call (.c (.clo 90 [])) [.t 31, .c (.i .i64 40)], none⟩,
  ⟨some 33, .build [.i .i64 0, .i .i64 0] [(0, 1, .t 32)], none⟩,
  ⟨some 34, .rowOf 2 [.i .i64 0, .i .i64 0] 1 [(0, .t 33)], none⟩,
  ⟨some 35, .ap 2 16 (.t 30) (.t 34), none⟩,
  ⟨some 36, .fa 1 (.t 5), none⟩,
  ⟨none, .st 1 (.t 36) (.t 35), none⟩]
def a61_r9 : List AOper := [⟨some 38, .bin .eql (.t 11) (.c (.i .i64 3)), none⟩,
  ⟨some 37, .mv (.t 38), none⟩]
def a61_r10 : List AOper := [⟨some 39, .fa 2 (.t 5), none⟩,
  ⟨some 40, .ld 1 false (.t 39), none⟩,
  ⟨some 41, .len false (.t 40), none⟩,
  ⟨some 42, .bin .gtr (.t 41) (.c (.i .i64 0)), none⟩]
def a61_r11 : List AOper := [⟨some 43, .fa 2 (.t 5), none⟩,
  ⟨some 44, .ld 1 false (.t 43), none⟩,
  ⟨some 45, .mv (.t 0), none⟩,
  ⟨some 46, .call (.c (.clo 90 [])) [.t 45, .c (.i .i64 40)], none⟩,
  ⟨some 47, .ia 1 (.t 44) (.c (.i .i64 0)), none⟩,
  ⟨none, .st 1 (.t 47) (.t 46), none⟩]
def a61_r12 : List AOper := [⟨some 49, .bin .eql (.t 11) (.c (.i .i64 4)), none⟩,
  ⟨some 48, .mv (.t 49), none⟩]
def a61_r13 : List AOper := [⟨some 50, .fa 3 (.t 5), none⟩,
  ⟨some 51, .ld 1 false (.t 50), none⟩,
  ⟨some 52, .len false (.t 51), none⟩,
  ⟨some 53, .bin .gtr (.t 52) (.c (.i .i64 0)), none⟩]
def a61_r14 : List AOper := [⟨some 54, .fa 3 (.t 5), none⟩,
  ⟨some 55, .ld 1 false (.t 54), none⟩,
  ⟨some 56, .call (.c (.clo 17 [])) [], none⟩,
  ⟨some 57, .ia 5 (.t 55) (.c (.i .i64 0)), none⟩,
  ⟨none, .st 5 (.t 57) (.t 56), none⟩]
def a61_r15 : List AOper := [⟨some 59, .bin .eql (.t 11) (.c (.i .i64 5)), none⟩,
  ⟨some 58, .mv (.t 59), none⟩]
def a61_r16 : List AOper := [⟨some 60, .fa 3 (.t 5), none⟩,
  ⟨some 61, .ld 1 false (.t 60), none⟩,
  ⟨some 62, .len false (.t 61), none⟩,
  ⟨some 63, .bin .gtr (.t 62) (.c (.i .i64 1)), none⟩]
def a61_r17 : List AOper := [⟨some 64, .fa 3 (.t 5), none⟩,
  ⟨some 65, .ld 1 false (.t 64), none⟩,
  ⟨some 66, .ia 5 (.t 65) (.c (.i .i64 1)), none⟩,
  ⟨some 67, .ld 5 true (.t 66), none⟩,
  ⟨some 68, .call (.c (.clo 58 [])) [.t 67], none⟩,
  ⟨some 6, .new [.b false, .emp, .emp, .emp, .emp], none⟩,
  ⟨none, .st 5 (.t 6) (.t 68), none⟩]
def a61_r18 : List AOper := [⟨some 69, .fa 3 (.t 5), none⟩,
  ⟨some 70, .ld 1 false (.t 69), none⟩,
  ⟨some 71, .ld 5 true (.t 6), none⟩,
  ⟨some 72, .ia 5 (.t 70) (.c (.i .i64 0)), none⟩,
  ⟨none, .st 5 (.t 72) (.t 71), none⟩]
def a61_r19 : List AOper := [⟨some 73, .ld 5 true (.t 5), none⟩,
  ⟨none, .st 5 (.t 4) (.t 73), none⟩]
def a61 : AFn := ⟨[true, false], .seq (.reg a61_r0 false []) (.seq (.reg a61_r1 false []) (.seq (.seq (.reg a61_r2 false []) (.block 0 (.seq (.reg a61_r3 false []) (.cond (.t 12) (.reg a61_r4 false []) (.seq (.reg a61_r5 false []) (.cond (.t 18) (.reg a61_r6 true [(1, 3), (1, 4)]) (.seq (.reg a61_r7 false []) (.cond (.t 27) (.reg a61_r8 true [(1, 3), (1, 5)]) (.seq (.reg a61_r9 false []) (.cond (.t 37) (.seq (.reg a61_r10 false []) (.cond (.t 42) (.reg a61_r11 true [(1, 3)]) (.skip))) (.seq (.reg a61_r12 false []) (.cond (.t 48) (.seq (.reg a61_r13 false []) (.cond (.t 53) (.reg a61_r14 true [(1, 2)]) (.skip))) (.seq (.reg a61_r15 false []) (.cond (.t 58) (.seq (.reg a61_r16 false []) (.cond (.t 63) (.seq (.reg a61_r17 false []) (.reg a61_r18 false [])) (.skip))) (.skip))))))))))))))) (.seq (.reg a61_r19 false []) (.ret)))), [.cell 4 5 true], []⟩
theorem reads61 : readFn Tryz.prog Tryz.f61 [true, false] [] [] = some a61 := by kernel_rfl
-- spec.l1DrawBad
def a62_r0 : List AOper := [⟨some 2, .new [.i .i64 0, .i .i64 0, .i .i64 0], none⟩]
def a62_r1 : List AOper := [⟨some 4, .mv (.t 0), none⟩,
  ⟨some 5, .call (.c (.clo 47 [])) [.t 4], none⟩,
  ⟨some 3, .new [.i .i64 0, .i .i64 0, .i .i64 0], none⟩,
  ⟨none, .st 3 (.t 3) (.t 5), none⟩]
def a62_r2 : List AOper := [⟨some 6, .mv (.t 0), none⟩,
  ⟨some 7, .call (.c (.clo 90 [])) [.t 6, .c (.i .i64 15)], none⟩]
def a62_r3 : List AOper := [⟨some 9, .bin .eql (.t 7) (.c (.i .i64 0)), none⟩,
  ⟨some 8, .mv (.t 9), none⟩]
def a62_r4 : List AOper := [⟨some 10, .mv (.t 0), none⟩,
  ⟨some 11, .call (.c (.clo 90 [])) [.t 10, .c (.i .i64 7)], none⟩,
  ⟨some 12, .bin .sub (.t 11) (.c (.i .i64 1)), none⟩,
  ⟨some 13, .fa 0 (.t 3), none⟩,
  ⟨none, .st 1 (.t 13) (.t 12), none⟩]
def a62_r5 : List AOper := [⟨some 15, .bin .eql (.t 7) (.c (.i .i64 1)), none⟩,
  ⟨some 14, .mv (.t 15), none⟩]
def a62_r6 : List AOper := [⟨some 16, .mv (.t 0), none⟩,
  ⟨some 17, .rowOf 1 [.i .i64 0] 2 [(0, .c (.i .i64 (-1))), (1, .c (.i .i64 1000))], none⟩,
  ⟨some 18, .call (.c (.clo 92 [])) [.t 16, .t 17], none⟩,
  ⟨some 19, .fa 1 (.t 3), none⟩,
  ⟨none, .st 1 (.t 19) (.t 18), none⟩]
def a62_r7 : List AOper := [⟨some 21, .bin .eql (.t 7) (.c (.i .i64 2)), none⟩,
  ⟨some 20, .mv (.t 21), none⟩]
def a62_r8 : List AOper := [⟨some 22, .mv (.t 0), none⟩,
  ⟨some 23, .rowOf 1 [.i .i64 0] 2 [(0, .c (.i .i64 1000000001)), (1, .c (.i .i64 3))], none⟩,
  ⟨some 24, .call (.c (.clo 92 [])) [.t 22, .t 23], none⟩,
  ⟨some 25, .fa 2 (.t 3), none⟩,
  ⟨none, .st 1 (.t 25) (.t 24), none⟩]
def a62_r9 : List AOper := [⟨some 26, .ld 3 true (.t 3), none⟩,
  ⟨none, .st 3 (.t 2) (.t 26), none⟩]
def a62 : AFn := ⟨[true], .seq (.reg a62_r0 false []) (.seq (.reg a62_r1 false []) (.seq (.seq (.reg a62_r2 false []) (.block 0 (.seq (.reg a62_r3 false []) (.cond (.t 8) (.reg a62_r4 false []) (.seq (.reg a62_r5 false []) (.cond (.t 14) (.reg a62_r6 false []) (.seq (.reg a62_r7 false []) (.cond (.t 20) (.reg a62_r8 false []) (.skip))))))))) (.seq (.reg a62_r9 false []) (.ret)))), [.cell 2 3 true], []⟩
theorem reads62 : readFn Tryz.prog Tryz.f62 [true] [] [] = some a62 := by kernel_rfl
-- laws.sameInts
def a63_r0 : List AOper := [⟨some 4, .mv (.c (.b false)), none⟩]
def a63_r1 : List AOper := [⟨some 6, .mv (.t 0), none⟩,
  ⟨some 7, .len false (.t 6), none⟩,
  ⟨some 8, .mv (.t 1), none⟩,
  ⟨some 9, .len false (.t 8), none⟩,
  ⟨some 10, .bin .neq (.t 7) (.t 9), none⟩]
def a63_r2 : List AOper := [⟨some 4, .mv (.c (.b false)), none⟩]
def a63_r3 : List AOper := [⟨some 5, .mv (.c (.i .i64 0)), none⟩]
def a63_r4 : List AOper := [⟨some 11, .mv (.t 5), none⟩,
  ⟨some 12, .mv (.t 0), none⟩,
  ⟨some 13, .len false (.t 12), none⟩,
  ⟨some 14, .bin .lss (.t 11) (.t 13), none⟩]
def a63_r6 : List AOper := [⟨some 17, .mv (.t 0), none⟩,
  ⟨some 18, .mv (.t 5), none⟩,
  ⟨some 19, .ia 1 (.t 17) (.t 18), none⟩,
  ⟨some 20, .ld 1 false (.t 19), none⟩,
  ⟨some 21, .mv (.t 1), none⟩,
  ⟨some 22, .mv (.t 5), none⟩,
  ⟨some 23, .ia 1 (.t 21) (.t 22), none⟩,
  ⟨some 24, .ld 1 false (.t 23), none⟩,
  ⟨some 25, .bin .neq (.t 20) (.t 24), none⟩]
def a63_r7 : List AOper := [⟨some 4, .mv (.c (.b false)), none⟩]
def a63_r5 : List AOper := [⟨some 15, .mv (.t 5), none⟩,
  ⟨some 16, .bin .add (.t 15) (.c (.i .i64 1)), none⟩,
  ⟨some 5, .mv (.t 16), none⟩]
def a63_l1 : ACode := .seq (.seq (.reg a63_r4 false []) (.cond (.t 14) (.skip) (.exit 0))) (.seq (.block 1 (.seq (.reg a63_r6 true []) (.cond (.t 25) (.seq (.reg a63_r7 false []) (.ret)) (.skip)))) (.reg a63_r5 false []))
def a63_r8 : List AOper := [⟨some 4, .mv (.c (.b true)), none⟩]
def a63 : AFn := ⟨[false, false], .seq (.reg a63_r0 false []) (.seq (.seq (.reg a63_r1 false []) (.cond (.t 10) (.seq (.reg a63_r2 false []) (.ret)) (.skip))) (.seq (.seq (.reg a63_r3 false []) (.block 0 (.loop [] a63_l1))) (.seq (.reg a63_r8 false []) (.ret)))), [.t 4], []⟩
theorem reads63 : readFn Tryz.prog Tryz.f63 [false, false] [] [[]] = some a63 := by kernel_rfl
-- laws.sameMsgs
def a64_r0 : List AOper := [⟨some 4, .mv (.c (.b false)), none⟩]
def a64_r1 : List AOper := [⟨some 6, .mv (.t 0), none⟩,
  ⟨some 7, .len false (.t 6), none⟩,
  ⟨some 8, .mv (.t 1), none⟩,
  ⟨some 9, .len false (.t 8), none⟩,
  ⟨some 10, .bin .neq (.t 7) (.t 9), none⟩]
def a64_r2 : List AOper := [⟨some 4, .mv (.c (.b false)), none⟩]
def a64_r3 : List AOper := [⟨some 5, .mv (.c (.i .i64 0)), none⟩]
def a64_r4 : List AOper := [⟨some 11, .mv (.t 5), none⟩,
  ⟨some 12, .mv (.t 0), none⟩,
  ⟨some 13, .len false (.t 12), none⟩,
  ⟨some 14, .bin .lss (.t 11) (.t 13), none⟩]
def a64_r6 : List AOper := [⟨some 17, .mv (.t 0), none⟩,
  ⟨some 18, .mv (.t 5), none⟩,
  ⟨some 19, .ia 3 (.t 17) (.t 18), none⟩,
  ⟨some 20, .ld 3 true (.t 19), none⟩,
  ⟨some 21, .mv (.t 1), none⟩,
  ⟨some 22, .mv (.t 5), none⟩,
  ⟨some 23, .ia 3 (.t 21) (.t 22), none⟩,
  ⟨some 24, .ld 3 true (.t 23), none⟩,
  ⟨some 25, .eqa true [(0, false), (1, false), (2, false)] (.t 20) (.t 24), none⟩]
def a64_r7 : List AOper := [⟨some 4, .mv (.c (.b false)), none⟩]
def a64_r5 : List AOper := [⟨some 15, .mv (.t 5), none⟩,
  ⟨some 16, .bin .add (.t 15) (.c (.i .i64 1)), none⟩,
  ⟨some 5, .mv (.t 16), none⟩]
def a64_l1 : ACode := .seq (.seq (.reg a64_r4 false []) (.cond (.t 14) (.skip) (.exit 0))) (.seq (.block 1 (.seq (.reg a64_r6 true []) (.cond (.t 25) (.seq (.reg a64_r7 false []) (.ret)) (.skip)))) (.reg a64_r5 false []))
def a64_r8 : List AOper := [⟨some 4, .mv (.c (.b true)), none⟩]
def a64 : AFn := ⟨[false, false], .seq (.reg a64_r0 false []) (.seq (.seq (.reg a64_r1 false []) (.cond (.t 10) (.seq (.reg a64_r2 false []) (.ret)) (.skip))) (.seq (.seq (.reg a64_r3 false []) (.block 0 (.loop [] a64_l1))) (.seq (.reg a64_r8 false []) (.ret)))), [.t 4], []⟩
theorem reads64 : readFn Tryz.prog Tryz.f64 [false, false] [] [[]] = some a64 := by kernel_rfl
-- spec.TreeDepth
def a65_r0 : List AOper := [⟨some 1, .box (.t 0), none⟩,
  ⟨some 2, .mv (.c (.i .i64 0)), none⟩]
def a65_r1 : List AOper := [⟨some 3, .ld 5 true (.t 1), none⟩,
  ⟨some 4, .call (.c (.clo 130 [])) [.t 3, .c (.i .i64 0), .c (.i .i64 1000), .c (.i .i64 7)], none⟩,
  ⟨some 2, .mv (.t 4), none⟩]
def a65 : AFn := ⟨[false], .seq (.reg a65_r0 false []) (.seq (.reg a65_r1 false []) (.ret)), [.t 2], []⟩
theorem reads65 : readFn Tryz.prog Tryz.f65 [false] [] [] = some a65 := by kernel_rfl
-- impl.drained
def a66_r0 : List AOper := [⟨some 1, .box (.t 0), none⟩,
  ⟨some 2, .new [.emp, .emp], none⟩]
def a66_r1 : List AOper := [⟨some 8, .fa 0 (.t 1), none⟩,
  ⟨some 9, .ld 1 false (.t 8), none⟩]
def a66_r2 : List AOper := [⟨some 10, .ld 5 true (.t 1), none⟩,
  ⟨some 11, .rowOf 5 [.b false, .emp, .emp, .emp, .emp] 1 [(0, .t 10)], none⟩,
  ⟨some 12, .build [.emp, .emp] [(0, 1, .t 11)], none⟩,
  ⟨none, .st 2 (.t 2) (.t 12), none⟩]
def a66_r3 : List AOper := [⟨some 13, .fa 3 (.t 1), none⟩,
  ⟨some 14, .ld 1 false (.t 13), none⟩,
  ⟨some 15, .fa 2 (.t 1), none⟩,
  ⟨some 16, .ld 1 false (.t 15), none⟩,
  ⟨some 17, .build [.emp, .emp] [(0, 1, .t 14), (1, 1, .t 16)], none⟩,
  ⟨some 18, .fa 4 (.t 1), none⟩,
  ⟨some 19, .ld 1 false (.t 18), none⟩,
  ⟨some 20, .call (.c (.clo 113 [])) [.t 17, .t 19], none⟩,
  ⟨some 3, .new [.emp, .emp], none⟩,
  ⟨none, .st 2 (.t 3) (.t 20), none⟩]
def a66_r4 : List AOper := [⟨some 21, .build [.emp, .emp] [], none⟩,
  ⟨some 4, .new [.emp, .emp], none⟩,
  ⟨none, .st 2 (.t 4) (.t 21), none⟩]
def a66_r5 : List AOper := [⟨some 22, .fa 0 (.t 3), none⟩,
  ⟨some 23, .ld 1 false (.t 22), none⟩,
  ⟨some 24, .len false (.t 23), none⟩,
  ⟨some 25, .mv (.c (.i .i64 0)), none⟩]
def a66_r6 : List AOper := [⟨some 26, .bin .lss (.t 25) (.t 24), none⟩]
def a66_r7 : List AOper := [⟨some 27, .mv (.t 25), none⟩,
  ⟨some 28, .ia 5 (.t 23) (.t 25), none⟩,
  ⟨some 29, .ld 5 true (.t 28), none⟩,
  ⟨some 6, .new [.b false, .emp, .emp, .emp, .emp], none⟩,
  ⟨some 5, .mv (.t 27), none⟩,
  ⟨none, .st 5 (.t 6) (.t 29), none⟩]
def a66_r8 : List AOper := [⟨some 30, .ld 5 true (.t 6), none⟩,
  ⟨some 31, .call (.c (.clo 66 [])) [.t 30], none⟩,
  ⟨some 7, .new [.emp, .emp], none⟩,
  ⟨none, .st 2 (.t 7) (.t 31), none⟩]
def a66_r9 : List AOper := [⟨some 32, .mv (.t 5), none⟩,
  ⟨some 33, .bin .gtr (.t 32) (.c (.i .i64 0)), none⟩]
def a66_r10 : List AOper := [⟨some 34, .fa 1 (.t 4), none⟩,
  ⟨some 35, .ld 1 false (.t 34), none⟩,
  ⟨some 36, .fa 1 (.t 3), none⟩,
  ⟨some 37, .ld 1 false (.t 36), none⟩,
  ⟨some 38, .mv (.t 5), none⟩,
  ⟨some 39, .bin .sub (.t 38) (.c (.i .i64 1)), none⟩,
  ⟨some 40, .ia 1 (.t 37) (.t 39), none⟩,
  ⟨some 41, .ld 1 false (.t 40), none⟩,
  ⟨some 42, .rowOf 1 [.i .i64 0] 1 [(0, .t 41)], none⟩,
  ⟨some 43, .ap 1 8 (.t 35) (.t 42), none⟩,
  ⟨some 44, .fa 1 (.t 4), none⟩,
  ⟨none, .st 1 (.t 44) (.t 43), none⟩]
def a66_r11 : List AOper := [⟨some 45, .fa 0 (.t 4), none⟩,
  ⟨some 46, .ld 1 false (.t 45), none⟩,
  ⟨some 47, .fa 0 (.t 7), none⟩,
  ⟨some 48, .ld 1 false (.t 47), none⟩,
  ⟨some 49, .ap 5 104 (.t 46) (.t 48), none⟩,
  ⟨some 50, .fa 0 (.t 4), none⟩,
  ⟨none, .st 1 (.t 50) (.t 49), none⟩]
def a66_r12 : List AOper := [⟨some 51, .fa 1 (.t 4), none⟩,
  ⟨some 52, .ld 1 false (.t 51), none⟩,
  ⟨some 53, .fa 1 (.t 7), none⟩,
  ⟨some 54, .ld 1 false (.t 53), none⟩,
  ⟨some 55, .ap 1 8 (.t 52) (.t 54), none⟩,
  ⟨some 56, .fa 1 (.t 4), none⟩,
  ⟨none, .st 1 (.t 56) (.t 55), none⟩]
def a66_r13 : List AOper := [⟨some 57, .bin .add (.t 25) (.c (.i .i64 1)), none⟩,
  ⟨some 25, .mv (.t 57), none⟩]
def a66_l1 : ACode := .seq (.reg a66_r6 false []) (.seq (.cond (.t 26) (.skip) (.exit 0)) (.seq (.block 1 (.seq (.reg a66_r7 false []) (.seq (.reg a66_r8 false []) (.seq (.seq (.reg a66_r9 false []) (.cond (.t 33) (.reg a66_r10 true [(1, 8)]) (.skip))) (.seq (.reg a66_r11 false []) (.reg a66_r12 false [])))))) (.reg a66_r13 false [])))
def a66_r14 : List AOper := [⟨some 58, .fa 0 (.t 4), none⟩,
  ⟨some 59, .ld 1 false (.t 58), none⟩,
  ⟨some 60, .len false (.t 59), none⟩,
  ⟨some 61, .bin .gtr (.t 60) (.c (.i .i64 4)), none⟩]
def a66_r15 : List AOper := [⟨some 62, .ld 2 true (.t 4), none⟩,
  ⟨some 63, .call (.c (.clo 102 [])) [.t 62], none⟩,
  ⟨none, .st 2 (.t 2) (.t 63), none⟩]
def a66_r16 : List AOper := [⟨some 64, .fa 0 (.t 4), none⟩,
  ⟨some 65, .ld 1 false (.t 64), none⟩,
  ⟨some 66, .fa 1 (.t 4), none⟩,
  ⟨some 67, .ld 1 false (.t 66), none⟩,
  ⟨some 68, .build [.b false, .emp, .emp, .emp, .emp] [(3, 1, .t 65), (2, 1, .t 67)], none⟩,
  ⟨some 69, .rowOf 5 [.b false, .emp, .emp, .emp, .emp] 1 [(0, .t 68)], none⟩,
  ⟨some 70, .build [.emp, .emp] [(0, 1, .t 69)], none⟩,
  ⟨none, .st 2 (.t 2) (.t 70), none⟩]
def a66 : AFn := ⟨[false], .seq (.reg a66_r0 false []) (.seq (.seq (.reg a66_r1 false []) (.cond (.t 9) (.seq (.reg a66_r2 false []) (.ret)) (.skip))) (.seq (.reg a66_r3 false []) (.seq (.reg a66_r4 false []) (.seq (.seq (.reg a66_r5 false []) (.block 0 (.loop [] a66_l1))) (.seq (.seq (.reg a66_r14 false []) (.cond (.t 61) (.seq (.reg a66_r15 false []) (.ret)) (.skip))) (.seq (.reg a66_r16 false []) (.ret))))))), [.cell 2 2 true], []⟩
theorem reads66 : readFn Tryz.prog Tryz.f66 [false] [] [[]] = some a66 := by kernel_rfl
-- spec.l4Drain
def a67_r0 : List AOper := [⟨some 1, .box (.t 0), none⟩,
  ⟨some 2, .new [.emp, .emp], none⟩]
def a67_r1 : List AOper := [⟨some 7, .fa 0 (.t 1), none⟩,
  ⟨some 8, .ld 1 false (.t 7), none⟩]
def a67_r2 : List AOper := [⟨some 9, .ld 5 true (.t 1), none⟩,
  ⟨some 10, .rowOf 5 [.b false, .emp, .emp, .emp, .emp] 1 [(0, .t 9)], none⟩,
  ⟨some 11, .build [.emp, .emp] [(0, 1, .t 10)], none⟩,
  ⟨none, .st 2 (.t 2) (.t 11), none⟩]
def a67_r3 : List AOper := [⟨some 12, .fa 3 (.t 1), none⟩,
  ⟨some 13, .ld 1 false (.t 12), none⟩,
  ⟨some 14, .fa 2 (.t 1), none⟩,
  ⟨some 15, .ld 1 false (.t 14), none⟩,
  ⟨some 16, .build [.emp, .emp] [(0, 1, .t 13), (1, 1, .t 15)], none⟩,
  ⟨some 17, .fa 4 (.t 1), none⟩,
  ⟨some 18, .ld 1 false (.t 17), none⟩,
  ⟨some 19, .call (.c (.clo 128 [])) [.t 16, .t 18], none⟩,
  ⟨some 3, .new [.emp, .emp], none⟩,
  ⟨none, .st 2 (.t 3) (.t 19), none⟩]
def a67_r4 : List AOper := [⟨some 20, .build [.emp, .emp] [], none⟩,
  ⟨some 4, .new [.emp, .emp], none⟩,
  ⟨none, .st 2 (.t 4) (.t 20), none⟩]
def a67_r5 : List AOper := [⟨some 5, .mv (.c (.i .i64 0)), none⟩]
def a67_r6 : List AOper := [⟨some 21, .mv (.t 5), none⟩,
  ⟨some 22, .fa 0 (.t 3), none⟩,
  ⟨some 23, .ld 1 false (.t 22), none⟩,
  ⟨some 24, .len false (.t 23), none⟩,
  ⟨some 25, .bin .lss (.t 21) (.t 24), none⟩]
def a67_r8 : List AOper := [⟨some 28, .fa 0 (.t 3), none⟩,
  ⟨some 29, .ld 1 false (.t 28), none⟩,
  ⟨some 30, .mv (.t 5), none⟩,
  ⟨some 31, .ia 5 (.t 29) (.t 30), none⟩,
  ⟨some 32, .ld 5 true (.t 31), none⟩,
  ⟨some 33, .call (.c (.clo 67 [])) [.t 32], none⟩,
  ⟨some 6, .new [.emp, .emp], none⟩,
  ⟨none, .st 2 (.t 6) (.t 33), none⟩]
def a67_r9 : List AOper := [⟨some 34, .mv (.t 5), none⟩,
  ⟨some 35, .bin .gtr (.t 34) (.c (.i .i64 0)), none⟩]
def a67_r10 : List AOper := [⟨some 36, .fa 1 (.t 4), none⟩,
  ⟨some 37, .ld 1 false (.t 36), none⟩,
  ⟨some 38, .fa 1 (.t 3), none⟩,
  ⟨some 39, .ld 1 false (.t 38), none⟩,
  ⟨some 40, .mv (.t 5), none⟩,
  ⟨some 41, .bin .sub (.t 40) (.c (.i .i64 1)), none⟩,
  ⟨some 42, .ia 1 (.t 39) (.t 41), none⟩,
  ⟨some 43, .ld 1 false (.t 42), none⟩,
  ⟨some 44, .rowOf 1 [.i .i64 0] 1 [(0, .t 43)], none⟩,
  ⟨some 45, .ap 1 8 (.t 37) (.t 44), none⟩,
  ⟨some 46, .fa 1 (.t 4), none⟩,
  ⟨none, .st 1 (.t 46) (.t 45), none⟩]
def a67_r11 : List AOper := [⟨some 47, .fa 0 (.t 4), none⟩,
  ⟨some 48, .ld 1 false (.t 47), none⟩,
  ⟨some 49, .fa 0 (.t 6), none⟩,
  ⟨some 50, .ld 1 false (.t 49), none⟩,
  ⟨some 51, .ap 5 104 (.t 48) (.t 50), none⟩,
  ⟨some 52, .fa 0 (.t 4), none⟩,
  ⟨none, .st 1 (.t 52) (.t 51), none⟩]
def a67_r12 : List AOper := [⟨some 53, .fa 1 (.t 4), none⟩,
  ⟨some 54, .ld 1 false (.t 53), none⟩,
  ⟨some 55, .fa 1 (.t 6), none⟩,
  ⟨some 56, .ld 1 false (.t 55), none⟩,
  ⟨some 57, .ap 1 8 (.t 54) (.t 56), none⟩,
  ⟨some 58, .fa 1 (.t 4), none⟩,
  ⟨none, .st 1 (.t 58) (.t 57), none⟩]
def a67_r7 : List AOper := [⟨some 26, .mv (.t 5), none⟩,
  ⟨some 27, .bin .add (.t 26) (.c (.i .i64 1)), none⟩,
  ⟨some 5, .mv (.t 27), none⟩]
def a67_l1 : ACode := .seq (.seq (.reg a67_r6 false []) (.cond (.t 25) (.skip) (.exit 0))) (.seq (.block 1 (.seq (.reg a67_r8 false []) (.seq (.seq (.reg a67_r9 false []) (.cond (.t 35) (.reg a67_r10 true [(1, 8)]) (.skip))) (.seq (.reg a67_r11 false []) (.reg a67_r12 false []))))) (.reg a67_r7 false []))
def a67_r13 : List AOper := [⟨some 59, .fa 0 (.t 4), none⟩,
  ⟨some 60, .ld 1 false (.t 59), none⟩,
  ⟨some 61, .len false (.t 60), none⟩,
  ⟨some 62, .bin .gtr (.t 61) (.c (.i .i64 4)), none⟩]
def a67_r14 : List AOper := [⟨some 63, .ld 2 true (.t 4), none⟩,
  ⟨some 64, .call (.c (.clo 121 [])) [.t 63], none⟩,
  ⟨none, .st 2 (.t 2) (.t 64), none⟩]
def a67_r15 : List AOper := [⟨some 65, .fa 0 (.t 4), none⟩,
  ⟨some 66, .ld 1 false (.t 65), none⟩,
  ⟨some 67, .fa 1 (.t 4), none⟩,
  ⟨some 68, .ld 1 false (.t 67), none⟩,
  ⟨some 69, .build [.b false, .emp, .emp, .emp, .emp] [(3, 1, .t 66), (2, 1, .t 68)], none⟩,
  ⟨some 70, .rowOf 5 [.b false, .emp, .emp, .emp, .emp] 1 [(0, .t 69)], none⟩,
  ⟨some 71, .build [.emp, .emp] [(0, 1, .t 70)], none⟩,
  ⟨none, .st 2 (.t 2) (.t 71), none⟩]
def a67 : AFn := ⟨[false], .seq (.reg a67_r0 false []) (.seq (.seq (.reg a67_r1 false []) (.cond (.t 8) (.seq (.reg a67_r2 false []) (.ret)) (.skip))) (.seq (.reg a67_r3 false []) (.seq (.reg a67_r4 false []) (.seq (.seq (.reg a67_r5 false []) (.block 0 (.loop [] a67_l1))) (.seq (.seq (.reg a67_r13 false []) (.cond (.t 62) (.seq (.reg a67_r14 false []) (.ret)) (.skip))) (.seq (.reg a67_r15 false []) (.ret))))))), [.cell 2 2 true], []⟩
theorem reads67 : readFn Tryz.prog Tryz.f67 [false] [] [[]] = some a67 := by kernel_rfl
-- impl.countOf
def a68_r0 : List AOper := [⟨some 1, .box (.t 0), none⟩,
  ⟨some 2, .mv (.c (.i .i64 0)), none⟩,
  ⟨some 3, .mv (.c (.i .i64 0)), none⟩]
def a68_r1 : List AOper := [⟨some 10, .fa 1 (.t 1), none⟩,
  ⟨some 11, .ld 1 false (.t 10), none⟩,
  ⟨some 12, .len false (.t 11), none⟩,
  ⟨some 13, .fa 4 (.t 1), none⟩,
  ⟨some 14, .ld 1 false (.t 13), none⟩,
  ⟨some 15, .len false (.t 14), none⟩,
  ⟨some 4, .mv (.t 12), none⟩,
  ⟨some 5, .mv (.t 15), none⟩]
def a68_r2 : List AOper := [⟨some 16, .fa 3 (.t 1), none⟩,
  ⟨some 17, .ld 1 false (.t 16), none⟩,
  ⟨some 18, .len false (.t 17), none⟩,
  ⟨some 19, .mv (.c (.i .i64 0)), none⟩]
def a68_r3 : List AOper := [⟨some 20, .bin .lss (.t 19) (.t 18), none⟩]
def a68_r4 : List AOper := [⟨some 21, .ia 5 (.t 17) (.t 19), none⟩,
  ⟨some 22, .ld 5 true (.t 21), none⟩,
  ⟨some 7, .new [.b false, .emp, .emp, .emp, .emp], none⟩,
  ⟨none, .st 5 (.t 7) (.t 22), none⟩]
def a68_r5 : List AOper := [⟨some 24, .ld 5 true (.t 7), none⟩,
  ⟨some 25, .call (.c (.clo 68 [])) [.t 24], none⟩,
  ⟨some 23, .mv (.t 25), none⟩,
  ⟨some 26, .ex (.t 23) 0, none⟩,
  ⟨some 27, .ex (.t 23) 1, none⟩,
  ⟨some 8, .mv (.t 26), none⟩,
  ⟨some 9, .mv (.t 27), none⟩]
def a68_r6 : List AOper := [⟨some 28, .mv (.t 4), none⟩,
  ⟨some 29, .mv (.t 8), none⟩,
  ⟨some 30, .bin .add (.t 28) (.t 29), none⟩,
  ⟨some 4, .mv (.t 30), none⟩]
def a68_r7 : List AOper := [⟨some 31, .mv (.t 5), none⟩,
  ⟨some 32, .mv (.t 9), none⟩,
  ⟨some 33, .bin .add (.t 31) (.t 32), none⟩,
  ⟨some 5, .mv (.t 33), none⟩]
def a68_r8 : List AOper := [⟨some 34, .bin .add (.t 19) (.c (.i .i64 1)), none⟩,
  ⟨some 19, .mv (.t 34), none⟩]
def a68_l1 : ACode := .seq (.reg a68_r3 false []) (.seq (.cond (.t 20) (.skip) (.exit 0)) (.seq (.block 1 (.seq (.reg a68_r4 false []) (.seq (.reg a68_r5 false []) (.seq (.reg a68_r6 false []) (.reg a68_r7 false []))))) (.reg a68_r8 false [])))
def a68_r9 : List AOper := [⟨some 35, .mv (.t 4), none⟩,
  ⟨some 36, .mv (.t 5), none⟩,
  ⟨some 2, .mv (.t 35), none⟩,
  ⟨some 3, .mv (.t 36), none⟩]
def a68 : AFn := ⟨[false], .seq (.reg a68_r0 false []) (.seq (.reg a68_r1 true []) (.seq (.seq (.reg a68_r2 false []) (.block 0 (.loop [] a68_l1))) (.seq (.reg a68_r9 false []) (.ret)))), [.t 2, .t 3], []⟩
theorem reads68 : readFn Tryz.prog Tryz.f68 [false] [] [[]] = some a68 := by kernel_rfl
-- spec.l1Once
def a69_r0 : List AOper := [⟨some 4, .mv (.c (.b false)), none⟩]
def a69_r1 : List AOper := [⟨some 5, .mv (.t 0), none⟩,
  ⟨some 6, .mv (.t 1), none⟩,
  ⟨some 7, .call (.c (.clo 90 [])) [.t 5, .t 6], none⟩,
  ⟨some 8, .bin .eql (.t 7) (.c (.i .i64 0)), none⟩,
  ⟨some 4, .mv (.t 8), none⟩]
def a69 : AFn := ⟨[true, false], .seq (.reg a69_r0 false []) (.seq (.reg a69_r1 false []) (.ret)), [.t 4], []⟩
theorem reads69 : readFn Tryz.prog Tryz.f69 [true, false] [] [] = some a69 := by kernel_rfl
-- spec.MapOk
def a73_r0 : List AOper := [⟨some 2, .mv (.c (.b false)), none⟩]
def a73_r1 : List AOper := [⟨some 3, .mv (.c (.i .i64 0)), none⟩]
def a73_r2 : List AOper := [⟨some 4, .mv (.t 3), none⟩,
  ⟨some 5, .mv (.t 0), none⟩,
  ⟨some 6, .len false (.t 5), none⟩,
  ⟨some 7, .bin .lss (.t 4) (.t 6), none⟩]
def a73_r4 : List AOper := [⟨some 10, .mv (.t 0), none⟩,
  ⟨some 11, .mv (.t 3), none⟩,
  ⟨some 12, .ia 2 (.t 10) (.t 11), none⟩,
  ⟨some 13, .fa 0 (.t 12), none⟩,
  ⟨some 14, .ld 1 false (.t 13), none⟩,
  ⟨some 15, .call (.c (.clo 119 [])) [.t 14, .c (.i .i64 0), .c (.i .i64 999)], none⟩,
  ⟨some 16, .un .not (.t 15), none⟩,
  ⟨some 17, .mv (.t 16), none⟩,
  ⟨some 18, .mv (.t 0), some (17, false)⟩,
  ⟨some 19, .mv (.t 3), some (17, false)⟩,
  ⟨some 20, .ia 2 (.t 18) (.t 19), some (17, false)⟩,
  ⟨some 21, .fa 1 (.t 20), some (17, false)⟩,
  ⟨some 22, .ld 1 false (.t 21), some (17, false)⟩,
  ⟨some 23, .call (.c (.clo 120 [])) [.t 22], some (17, false)⟩,
  ⟨some 24, .un .not (.t 23), some (17, false)⟩,
  ⟨some 25, .pick (.t 17) (.c (.b true)) (.t 24), none⟩,
  ⟨some 26, .mv (.t 25), none⟩,
  ⟨some 27, .mv (.t 3), some (26, false)⟩,
  ⟨some 28, .bin .gtr (.t 27) (.c (.i .i64 0)), some (26, false)⟩,
  ⟨some 29, .mv (.t 28), some (26, false)⟩,
  ⟨some 30, .mv (.t 0), some (29, true)⟩,
  ⟨some 31, .mv (.t 3), some (29, true)⟩,
  ⟨some 32, .bin .sub (.t 31) (.c (.i .i64 1)), some (29, true)⟩,
  ⟨some 33, .ia 2 (.t 30) (.t 32), some (29, true)⟩,
  ⟨some 34, .fa 0 (.t 33), some (29, true)⟩,
  ⟨some 35, .ld 1 false (.t 34), some (29, true)⟩,
  ⟨some 36, .mv (.t 0), some (29, true)⟩,
  ⟨some 37, .mv (.t 3), some (29, true)⟩,
  ⟨some 38, .ia 2 (.t 36) (.t 37), some (29, true)⟩,
  ⟨some 39, .fa 0 (.t 38), some (29, true)⟩,
  ⟨some 40, .ld 1 false (.t 39), some (29, true)⟩,
  ⟨some 41, .bin .geq (.t 35) (.t 40), some (29, true)⟩,
  ⟨some 42, .pick (.t 29) (.t 41) (.c (.b false)), some (26, false)⟩,
  ⟨some 43, .pick (.t 26) (.c (.b true)) (.t 42), none⟩]
def a73_r5 : List AOper := [⟨some 2, .mv (.c (.b false)), none⟩]
def a73_r3 : List AOper := [⟨some 8, .mv (.t 3), none⟩,
  ⟨some 9, .bin .add (.t 8) (.c (.i .i64 1)), none⟩,
  ⟨some 3, .mv (.t 9), none⟩]
def a73_l1 : ACode := .seq (.seq (.reg a73_r2 false []) (.cond (.t 7) (.skip) (.exit 0))) (.seq (.block 1 (.seq (.reg a73_r4 true []) (.cond (.t 43) (.seq (.reg a73_r5 false []) (.ret)) (.skip)))) (.reg a73_r3 false []))
def a73_r6 : List AOper := [⟨some 2, .mv (.c (.b true)), none⟩]
def a73 : AFn := ⟨[false], .seq (.reg a73_r0 false []) (.seq (.seq (.reg a73_r1 false []) (.block 0 (.loop [] a73_l1))) (.seq (.reg a73_r6 false []) (.ret))), [.t 2], []⟩
theorem reads73 : readFn Tryz.prog Tryz.f73 [false] [] [[]] = some a73 := by kernel_rfl
-- impl.MapAll
def a77_r0 : List AOper := [⟨some 4, .mv (.c (.emp)), none⟩]
def a77_r1 : List AOper := [⟨some 8, .mv (.t 0), none⟩,
  ⟨some 9, .call (.c (.clo 53 [])) [.t 8], none⟩,
  ⟨some 5, .mv (.t 9), none⟩]
def a77_r2 : List AOper := [⟨some 10, .mv (.t 0), none⟩,
  ⟨some 11, .call (.c (.clo 54 [])) [.t 10], none⟩,
  ⟨some 12, .un .not (.t 11), none⟩]
def a77_r3 : List AOper := [⟨some 13, .mv (.t 5), none⟩,
  ⟨some 4, .mv (.t 13), none⟩]
def a77_r4 : List AOper := [⟨some 14, .mv (.t 1), none⟩,
  ⟨some 15, .len false (.t 14), none⟩,
  ⟨some 16, .mv (.c (.i .i64 0)), none⟩]
def a77_r5 : List AOper := [⟨some 17, .bin .lss (.t 16) (.t 15), none⟩]
def a77_r6 : List AOper := [⟨some 18, .ia 3 (.t 14) (.t 16), none⟩,
  ⟨some 19, .ld 3 true (.t 18), none⟩,
  ⟨some 7, .new [.i .i64 0, .i .i64 0, .i .i64 0], none⟩,
  ⟨none, .st 3 (.t 7) (.t 19), none⟩]
def a77_r7 : List AOper := [⟨some 20, .ld 3 true (.t 7), none⟩,
  ⟨some 21, .call (.c (.clo 49 [])) [.t 20], none⟩]
def a77_r8 : List AOper := [⟨some 22, .mv (.t 5), none⟩,
  ⟨some 23, .ld 3 true (.t 7), none⟩,
  ⟨some 24, .call (.c (.clo 55 [])) [.t 22, .t 23], none⟩,
  ⟨some 5, .mv (.t 24), none⟩]
def a77_r9 : List AOper := [⟨some 25, .bin .add (.t 16) (.c (.i .i64 1)), none⟩,
  ⟨some 16, .mv (.t 25), none⟩]
def a77_l1 : ACode := .seq (.reg a77_r5 false []) (.seq (.cond (.t 17) (.skip) (.exit 0)) (.seq (.block 1 (.seq (.reg a77_r6 false []) (.seq (.reg a77_r7 false []) (.cond (.t 21) (.reg a77_r8 false []) (.skip))))) (.reg a77_r9 false [])))
def a77_r10 : List AOper := [⟨some 26, .mv (.t 5), none⟩,
  ⟨some 4, .mv (.t 26), none⟩]
def a77 : AFn := ⟨[false, false], .seq (.reg a77_r0 false []) (.seq (.reg a77_r1 false []) (.seq (.seq (.reg a77_r2 false []) (.cond (.t 12) (.seq (.reg a77_r3 false []) (.ret)) (.skip))) (.seq (.seq (.reg a77_r4 false []) (.block 0 (.loop [] a77_l1))) (.seq (.reg a77_r10 false []) (.ret))))), [.t 4], []⟩
theorem reads77 : readFn Tryz.prog Tryz.f77 [false, false] [] [[]] = some a77 := by kernel_rfl
-- spec.l1Max
def a85_r0 : List AOper := [⟨some 4, .mv (.c (.i .i64 0)), none⟩]
def a85_r1 : List AOper := [⟨some 5, .mv (.t 0), none⟩,
  ⟨some 6, .mv (.t 1), none⟩,
  ⟨some 7, .bin .gtr (.t 5) (.t 6), none⟩]
def a85_r2 : List AOper := [⟨some 8, .mv (.t 0), none⟩,
  ⟨some 4, .mv (.t 8), none⟩]
def a85_r3 : List AOper := [⟨some 9, .mv (.t 1), none⟩,
  ⟨some 4, .mv (.t 9), none⟩]
def a85 : AFn := ⟨[false, false], .seq (.reg a85_r0 false []) (.seq (.seq (.reg a85_r1 false []) (.cond (.t 7) (.seq (.reg a85_r2 false []) (.ret)) (.skip))) (.seq (.reg a85_r3 false []) (.ret))), [.t 4], []⟩
theorem reads85 : readFn Tryz.prog Tryz.f85 [false, false] [] [] = some a85 := by kernel_rfl
-- spec.l1Below
def a90_r0 : List AOper := [⟨some 4, .mv (.c (.i .i64 0)), none⟩]
def a90_r1 : List AOper := [⟨some 9, .mv (.t 1), none⟩,
  ⟨some 10, .bin .leq (.t 9) (.c (.i .i64 0)), none⟩]
def a90_r2 : List AOper := [⟨some 4, .mv (.c (.i .i64 0)), none⟩]
def a90_r3 : List AOper := [⟨some 11, .mv (.t 1), none⟩,
  ⟨some 12, .bin .leq (.t 11) (.c (.i .i64 256)), none⟩]
def a90_r4 : List AOper := [⟨some 13, .mv (.t 0), none⟩,
  ⟨some 14, .call (.c (.clo 144 [])) [.t 13], none⟩,
  ⟨some 15, .mv (.t 1), none⟩,
  ⟨some 16, .bin .rem (.t 14) (.t 15), none⟩,
  ⟨some 4, .mv (.t 16), none⟩]
def a90_r5 : List AOper := [⟨some 17, .mv (.t 0), none⟩,
  ⟨some 18, .call (.c (.clo 144 [])) [.t 17], none⟩,
  ⟨some 5, .mv (.t 18), none⟩]
def a90_r6 : List AOper := [⟨some 19, .mv (.t 0), none⟩,
  ⟨some 20, .call (.c (.clo 144 [])) [.t 19], none⟩,
  ⟨some 6, .mv (.t 20), none⟩]
def a90_r7 : List AOper := [⟨some 21, .mv (.t 0), none⟩,
  ⟨some 22, .call (.c (.clo 144 [])) [.t 21], none⟩,
  ⟨some 7, .mv (.t 22), none⟩]
def a90_r8 : List AOper := [⟨some 23, .mv (.t 0), none⟩,
  ⟨some 24, .call (.c (.clo 144 [])) [.t 23], none⟩,
  ⟨some 8, .mv (.t 24), none⟩]
def a90_r9 : List AOper := [⟨some 25, .mv (.t 5), none⟩,
  ⟨some 26, .bin .mul (.t 25) (.c (.i .i64 16777216)), none⟩,
  ⟨some 27, .mv (.t 6), none⟩,
  ⟨some 28, .bin .mul (.t 27) (.c (.i .i64 65536)), none⟩,
  ⟨some 29, .bin .add (.t 26) (.t 28), none⟩,
  ⟨some 30, .mv (.t 7), none⟩,
  ⟨some 31, .bin .mul (.t 30) (.c (.i .i64 256)), none⟩,
  ⟨some 32, .bin .add (.t 29) (.t 31), none⟩,
  ⟨some 33, .mv (.t 8), none⟩,
  ⟨some 34, .bin .add (.t 32) (.t 33), none⟩,
  ⟨some 35, .mv (.t 1), none⟩,
  ⟨some 36, .bin .rem (.t 34) (.t 35), none⟩,
  ⟨some 4, .mv (.t 36), none⟩]
def a90 : AFn := ⟨[true, false], .seq (.reg a90_r0 false []) (.seq (.seq (.reg a90_r1 false []) (.cond (.t 10) (.seq (.reg a90_r2 false []) (.ret)) (.skip))) (.seq (.seq (.reg a90_r3 false []) (.cond (.t 12) (.seq (.reg a90_r4 false []) (.ret)) (.skip))) (.seq (.reg a90_r5 false []) (.seq (.reg a90_r6 false []) (.seq (.reg a90_r7 false []) (.seq (.reg a90_r8 false []) (.seq (.reg a90_r9 false []) (.ret)))))))), [.t 4], []⟩
theorem reads90 : readFn Tryz.prog Tryz.f90 [true, false] [] [] = some a90 := by kernel_rfl
-- spec.l1PickInt
def a92_r0 : List AOper := [⟨some 4, .mv (.c (.i .i64 0)), none⟩]
def a92_r1 : List AOper := [⟨some 5, .mv (.t 1), none⟩,
  ⟨some 6, .mv (.t 0), none⟩,
  ⟨some 7, .mv (.t 1), none⟩,
  ⟨some 8, .len false (.t 7), none⟩,
  ⟨some 9, .call (.c (.clo 90 [])) [.t 6, .t 8], none⟩,
  ⟨some 10, .ia 1 (.t 5) (.t 9), none⟩,
  ⟨some 11, .ld 1 false (.t 10), none⟩,
  ⟨some 4, .mv (.t 11), none⟩]
def a92 : AFn := ⟨[true, false], .seq (.reg a92_r0 false []) (.seq (.reg a92_r1 false []) (.ret)), [.t 4], []⟩
theorem reads92 : readFn Tryz.prog Tryz.f92 [true, false] [] [] = some a92 := by kernel_rfl
-- spec.l1DrawKey
def a93_r0 : List AOper := [⟨some 2, .mv (.c (.i .i64 0)), none⟩]
def a93_r1 : List AOper := [⟨some 3, .mv (.t 0), none⟩,
  ⟨some 4, .call (.c (.clo 69 [])) [.t 3, .c (.i .i64 15)], none⟩]
def a93_r2 : List AOper := [⟨some 5, .mv (.t 0), none⟩,
  ⟨some 6, .rowOf 1 [.i .i64 0] 3 [(0, .c (.i .i64 0)), (1, .c (.i .i64 999)), (2, .c (.i .i64 500))], none⟩,
  ⟨some 7, .call (.c (.clo 92 [])) [.t 5, .t 6], none⟩,
  ⟨some 2, .mv (.t 7), none⟩]
def a93_r3 : List AOper := [⟨some 8, .mv (.t 0), none⟩,
  ⟨some 9, .call (.c (.clo 90 [])) [.t 8, .c (.i .i64 30)], none⟩,
  ⟨some 2, .mv (.t 9), none⟩]
def a93 : AFn := ⟨[true], .seq (.reg a93_r0 false []) (.seq (.seq (.reg a93_r1 false []) (.cond (.t 4) (.seq (.reg a93_r2 false []) (.ret)) (.skip))) (.seq (.reg a93_r3 false []) (.ret))), [.t 2], []⟩
theorem reads93 : readFn Tryz.prog Tryz.f93 [true] [] [] = some a93 := by kernel_rfl
-- impl.leafOk
def a94_r0 : List AOper := [⟨some 3, .box (.t 0), none⟩,
  ⟨some 4, .box (.t 1), none⟩,
  ⟨some 5, .box (.t 2), none⟩,
  ⟨some 6, .mv (.c (.b false)), none⟩]
def a94_r1 : List AOper := [⟨some 7, .fa 1 (.t 3), none⟩,
  ⟨some 8, .ld 1 false (.t 7), none⟩,
  ⟨some 9, .call (.c (.clo 54 [])) [.t 8], none⟩,
  ⟨some 10, .un .not (.t 9), none⟩,
  ⟨some 11, .mv (.t 10), none⟩,
  ⟨some 12, .fa 1 (.t 3), some (11, false)⟩,
  ⟨some 13, .ld 1 false (.t 12), some (11, false)⟩,
  ⟨some 14, .len false (.t 13), some (11, false)⟩,
  ⟨some 15, .bin .gtr (.t 14) (.c (.i .i64 4)), some (11, false)⟩,
  ⟨some 16, .pick (.t 11) (.c (.b true)) (.t 15), none⟩,
  ⟨some 17, .mv (.t 16), none⟩,
  ⟨some 18, .fa 2 (.t 3), some (17, false)⟩,
  ⟨some 19, .ld 1 false (.t 18), some (17, false)⟩,
  ⟨some 20, .len false (.t 19), some (17, false)⟩,
  ⟨some 21, .bin .gtr (.t 20) (.c (.i .i64 0)), some (17, false)⟩,
  ⟨some 22, .pick (.t 17) (.c (.b true)) (.t 21), none⟩,
  ⟨some 23, .mv (.t 22), none⟩,
  ⟨some 24, .fa 3 (.t 3), some (23, false)⟩,
  ⟨some 25, .ld 1 false (.t 24), some (23, false)⟩,
  ⟨some 26, .len false (.t 25), some (23, false)⟩,
  ⟨some 27, .bin .gtr (.t 26) (.c (.i .i64 0)), some (23, false)⟩,
  ⟨some 28, .pick (.t 23) (.c (.b true)) (.t 27), none⟩,
  ⟨some 29, .mv (.t 28), none⟩,
  ⟨some 30, .fa 4 (.t 3), some (29, false)⟩,
  ⟨some 31, .ld 1 false (.t 30), some (29, false)⟩,
  ⟨some 32, .len false (.t 31), some (29, false)⟩,
  ⟨some 33, .bin .gtr (.t 32) (.c (.i .i64 0)), some (29, false)⟩,
  ⟨some 34, .pick (.t 29) (.c (.b true)) (.t 33), none⟩]
def a94_r2 : List AOper := [⟨some 6, .mv (.c (.b false)), none⟩]
def a94_r3 : List AOper := [⟨some 35, .fa 1 (.t 3), none⟩,
  ⟨some 36, .ld 1 false (.t 35), none⟩,
  ⟨some 37, .mf 147 [.t 4, .t 5], none⟩,
  ⟨some 38, .call (.c (.clo 146 [])) [.t 36, .t 37], none⟩,
  ⟨some 39, .un .not (.t 38), none⟩,
  ⟨some 6, .mv (.t 39), none⟩]
def a94 : AFn := ⟨[false, false, false], .seq (.reg a94_r0 false []) (.seq (.seq (.reg a94_r1 false []) (.cond (.t 34) (.seq (.reg a94_r2 false []) (.ret)) (.skip))) (.seq (.reg a94_r3 false []) (.ret))), [.t 6], []⟩
theorem reads94 : readFn Tryz.prog Tryz.f94 [false, false, false] [] [] = some a94 := by kernel_rfl
-- impl.within
def a95_r0 : List AOper := [⟨some 6, .mv (.c (.b false)), none⟩]
def a95_r1 : List AOper := [⟨some 7, .mv (.t 0), none⟩,
  ⟨some 8, .mv (.t 1), none⟩,
  ⟨some 9, .bin .geq (.t 7) (.t 8), none⟩,
  ⟨some 10, .mv (.t 9), none⟩,
  ⟨some 11, .mv (.t 0), some (10, true)⟩,
  ⟨some 12, .mv (.t 2), some (10, true)⟩,
  ⟨some 13, .bin .leq (.t 11) (.t 12), some (10, true)⟩,
  ⟨some 14, .pick (.t 10) (.t 13) (.c (.b false)), none⟩,
  ⟨some 6, .mv (.t 14), none⟩]
def a95 : AFn := ⟨[false, false, false], .seq (.reg a95_r0 false []) (.seq (.reg a95_r1 false []) (.ret)), [.t 6], []⟩
theorem reads95 : readFn Tryz.prog Tryz.f95 [false, false, false] [] [] = some a95 := by kernel_rfl
-- slices.ContainsFunc[[]impl.Msg,impl.Msg]
def a96_r0 : List AOper := [⟨some 4, .mv (.c (.b false)), none⟩]
def a96_r1 : List AOper := [⟨some 5, .mv (.t 0), none⟩,
  ⟨some 6, .mv (.t 1), none⟩,
  ⟨some 7, .call (.c (.clo 148 [])) [.t 5, .t 6], none⟩,
  ⟨some 8, .bin .geq (.t 7) (.c (.i .i64 0)), none⟩,
  ⟨some 4, .mv (.t 8), none⟩]
def a96 : AFn := ⟨[false, false], .seq (.reg a96_r0 false []) (.seq (.reg a96_r1 false []) (.ret)), [.t 4], []⟩
theorem reads96 : readFn Tryz.prog Tryz.f96 [false, false] [] [] = some a96 := by kernel_rfl
-- impl.depthOf$1
def a97_r0 : List AOper := [⟨some 3, .box (.t 0), none⟩,
  ⟨some 4, .mv (.c (.b false)), none⟩]
def a97_r1 : List AOper := [⟨some 5, .ld 3 true (.t 3), none⟩,
  ⟨some 6, .call (.c (.clo 49 [])) [.t 5], none⟩,
  ⟨some 7, .un .not (.t 6), none⟩,
  ⟨some 8, .mv (.t 7), none⟩,
  ⟨some 9, .fa 0 (.t 3), some (8, false)⟩,
  ⟨some 10, .ld 1 false (.t 9), some (8, false)⟩,
  ⟨some 11, .bin .eql (.t 10) (.c (.i .i64 4)), some (8, false)⟩,
  ⟨some 12, .pick (.t 8) (.c (.b true)) (.t 11), none⟩,
  ⟨some 13, .mv (.t 12), none⟩,
  ⟨some 14, .fa 1 (.t 3), some (13, false)⟩,
  ⟨some 15, .ld 1 false (.t 14), some (13, false)⟩,
  ⟨some 16, .ld 1 false (.t 1), some (13, false)⟩,
  ⟨some 17, .ld 1 false (.t 2), some (13, false)⟩,
  ⟨some 18, .bin .sub (.t 17) (.c (.i .i64 1)), some (13, false)⟩,
  ⟨some 19, .call (.c (.clo 95 [])) [.t 15, .t 16, .t 18], some (13, false)⟩,
  ⟨some 20, .un .not (.t 19), some (13, false)⟩,
  ⟨some 21, .pick (.t 13) (.c (.b true)) (.t 20), none⟩,
  ⟨some 4, .mv (.t 21), none⟩]
def a97 : AFn := ⟨[false, false, false], .seq (.reg a97_r0 false []) (.seq (.reg a97_r1 false []) (.ret)), [.t 4], []⟩
theorem reads97 : readFn Tryz.prog Tryz.f97 [false, false, false] [] [] = some a97 := by kernel_rfl
-- impl.isKey
def a98_r0 : List AOper := [⟨some 2, .mv (.c (.b false)), none⟩]
def a98_r1 : List AOper := [⟨some 3, .mv (.t 0), none⟩,
  ⟨some 4, .call (.c (.clo 95 [])) [.t 3, .c (.i .i64 0), .c (.i .i64 999)], none⟩,
  ⟨some 2, .mv (.t 4), none⟩]
def a98 : AFn := ⟨[false], .seq (.reg a98_r0 false []) (.seq (.reg a98_r1 false []) (.ret)), [.t 2], []⟩
theorem reads98 : readFn Tryz.prog Tryz.f98 [false] [] [] = some a98 := by kernel_rfl
-- impl.isNum
def a99_r0 : List AOper := [⟨some 2, .mv (.c (.b false)), none⟩]
def a99_r1 : List AOper := [⟨some 3, .mv (.t 0), none⟩,
  ⟨some 4, .call (.c (.clo 95 [])) [.t 3, .c (.i .i64 (-1000000000)), .c (.i .i64 1000000000)], none⟩,
  ⟨some 2, .mv (.t 4), none⟩]
def a99 : AFn := ⟨[false], .seq (.reg a99_r0 false []) (.seq (.reg a99_r1 false []) (.ret)), [.t 2], []⟩
theorem reads99 : readFn Tryz.prog Tryz.f99 [false] [] [] = some a99 := by kernel_rfl
-- slices.Clone[[]int,int]
def a100_r0 : List AOper := [⟨some 2, .mv (.c (.emp)), none⟩]
def a100_r1 : List AOper := [⟨some 3, .mv (.t 0), none⟩,
  ⟨some 4, .eqn false (.t 3), none⟩]
def a100_r2 : List AOper := [⟨some 2, .mv (.c (.emp)), none⟩]
def a100_r3 : List AOper := [⟨some 5, .rowOf 1 [.i .i64 0] 0 [], none⟩,
  ⟨some 6, .mv (.t 0), none⟩,
  ⟨some 7, .ap 1 8 (.t 5) (.t 6), none⟩,
  ⟨some 2, .mv (.t 7), none⟩]
def a100 : AFn := ⟨[false], .seq (.reg a100_r0 false []) (.seq (.seq (.reg a100_r1 false []) (.cond (.t 4) (.seq (.reg a100_r2 false []) (.ret)) (.skip))) (.seq (.reg a100_r3 false []) (.ret))), [.t 2], []⟩
theorem reads100 : readFn Tryz.prog Tryz.f100 [false] [] [] = some a100 := by kernel_rfl
-- slices.Clone[[]impl.Msg,impl.Msg]
def a101_r0 : List AOper := [⟨some 2, .mv (.c (.emp)), none⟩]
def a101_r1 : List AOper := [⟨some 3, .mv (.t 0), none⟩,
  ⟨some 4, .eqn false (.t 3), none⟩]
def a101_r2 : List AOper := [⟨some 2, .mv (.c (.emp)), none⟩]
def a101_r3 : List AOper := [⟨some 5, .rowOf 3 [.i .i64 0, .i .i64 0, .i .i64 0] 0 [], none⟩,
  ⟨some 6, .mv (.t 0), none⟩,
  ⟨some 7, .ap 3 24 (.t 5) (.t 6), none⟩,
  ⟨some 2, .mv (.t 7), none⟩]
def a101 : AFn := ⟨[false], .seq (.reg a101_r0 false []) (.seq (.seq (.reg a101_r1 false []) (.cond (.t 4) (.seq (.reg a101_r2 false []) (.ret)) (.skip))) (.seq (.reg a101_r3 false []) (.ret))), [.t 2], []⟩
theorem reads101 : readFn Tryz.prog Tryz.f101 [false] [] [] = some a101 := by kernel_rfl
-- impl.grouped
def a102_r0 : List AOper := [⟨some 1, .box (.t 0), none⟩,
  ⟨some 2, .new [.emp, .emp], none⟩]
def a102_r1 : List AOper := [⟨some 8, .build [.emp, .emp] [], none⟩,
  ⟨some 3, .new [.emp, .emp], none⟩,
  ⟨none, .st 2 (.t 3) (.t 8), none⟩]
def a102_r2 : List AOper := [⟨some 9, .fa 0 (.t 1), none⟩,
  ⟨some 10, .ld 1 false (.t 9), none⟩,
  ⟨some 11, .len false (.t 10), none⟩,
  ⟨some 12, .call (.c (.clo 149 [])) [.t 11], none⟩,
  ⟨some 4, .mv (.t 12), none⟩]
def a102_r3 : List AOper := [⟨some 13, .mv (.t 4), none⟩,
  ⟨some 14, .len false (.t 13), none⟩,
  ⟨some 15, .mv (.c (.i .i64 0)), none⟩]
def a102_r4 : List AOper := [⟨some 16, .bin .lss (.t 15) (.t 14), none⟩]
def a102_r5 : List AOper := [⟨some 17, .mv (.t 15), none⟩,
  ⟨some 18, .ia 1 (.t 13) (.t 15), none⟩,
  ⟨some 19, .ld 1 false (.t 18), none⟩,
  ⟨some 5, .mv (.t 17), none⟩,
  ⟨some 6, .mv (.t 19), none⟩]
def a102_r6 : List AOper := [⟨some 20, .mv (.t 4), none⟩,
  ⟨some 21, .mv (.t 5), none⟩,
  ⟨some 22, .fa 0 (.t 1), none⟩,
  ⟨some 23, .ld 1 false (.t 22), none⟩,
  ⟨some 24, .len false (.t 23), none⟩,
  ⟨some 25, .call (.c (.clo 150 [])) [.t 20, .t 21, .t 24], none⟩,
  ⟨some 7, .mv (.t 25), none⟩]
def a102_r7 : List AOper := [⟨some 26, .mv (.t 5), none⟩,
  ⟨some 27, .bin .gtr (.t 26) (.c (.i .i64 0)), none⟩]
def a102_r8 : List AOper := [⟨some 28, .fa 1 (.t 3), none⟩,
  ⟨some 29, .ld 1 false (.t 28), none⟩,
  ⟨some 30, .fa 1 (.t 1), none⟩,
  ⟨some 31, .ld 1 false (.t 30), none⟩,
  ⟨some 32, .mv (.t 6), none⟩,
  ⟨some 33, .bin .sub (.t 32) (.c (.i .i64 1)), none⟩,
  ⟨some 34, .ia 1 (.t 31) (.t 33), none⟩,
  ⟨some 35, .ld 1 false (.t 34), none⟩,
  ⟨some 36, .rowOf 1 [.i .i64 0] 1 [(0, .t 35)], none⟩,
  ⟨some 37, .ap 1 8 (.t 29) (.t 36), none⟩,
  ⟨some 38, .fa 1 (.t 3), none⟩,
  ⟨none, .st 1 (.t 38) (.t 37), none⟩]
def a102_r9 : List AOper := [⟨some 39, .fa 0 (.t 3), none⟩,
  ⟨some 40, .ld 1 false (.t 39), none⟩,
  ⟨some 41, .fa 0 (.t 1), none⟩,
  ⟨some 42, .ld 1 false (.t 41), none⟩,
  ⟨some 43, .mv (.t 6), none⟩,
  ⟨some 44, .mv (.t 7), none⟩,
  ⟨some 45, .sl 5 (.t 42) (some (.t 43)) (some (.t 44)) none, none⟩,
  ⟨some 46, .call (.c (.clo 104 [])) [.t 45], none⟩,
  ⟨some 47, .fa 1 (.t 1), none⟩,
  ⟨some 48, .ld 1 false (.t 47), none⟩,
  ⟨some 49, .mv (.t 6), none⟩,
  ⟨some 50, .mv (.t 7), none⟩,
  ⟨some 51, .bin .sub (.t 50) (.c (.i .i64 1)), none⟩,
  ⟨some 52, .sl 1 (.t 48) (some (.t 49)) (some (.t 51)) none, none⟩,
  ⟨some 53, .call (.c (.clo 100 [])) [.t 52], none⟩,
  ⟨some 54, .build [.b false, .emp, .emp, .emp, .emp] [(3, 1, .t 46), (2, 1, .t 53)], none⟩,
  ⟨some 55, .rowOf 5 [.b false, .emp, .emp, .emp, .emp] 1 [(0, .t 54)], none⟩,
  ⟨some 56, .ap 5 104 (.t 40) (.t 55), none⟩,
  ⟨some 57, .fa 0 (.t 3), none⟩,
  ⟨none, .st 1 (.t 57) (.t 56), none⟩]
def a102_r10 : List AOper := [⟨some 58, .bin .add (.t 15) (.c (.i .i64 1)), none⟩,
  ⟨some 15, .mv (.t 58), none⟩]
def a102_l1 : ACode := .seq (.reg a102_r4 false []) (.seq (.cond (.t 16) (.skip) (.exit 0)) (.seq (.block 1 (.seq (.reg a102_r5 false []) (.seq (.reg a102_r6 false []) (.seq (.seq (.reg a102_r7 false []) (.cond (.t 27) (.reg a102_r8 true [(1, 8)]) (.skip))) (.reg a102_r9 true [(1, 7), (7, 9), (7, 13), (1, 14), (1, 16)]))))) (.reg a102_r10 false [])))
def a102_r11 : List AOper := [⟨some 59, .ld 2 true (.t 3), none⟩,
  ⟨none, .st 2 (.t 2) (.t 59), none⟩]
def a102 : AFn := ⟨[false], .seq (.reg a102_r0 false []) (.seq (.reg a102_r1 false []) (.seq (.reg a102_r2 false []) (.seq (.seq (.reg a102_r3 false []) (.block 0 (.loop [] a102_l1))) (.seq (.reg a102_r11 false []) (.ret))))), [.cell 2 2 true], []⟩
theorem reads102 : readFn Tryz.prog Tryz.f102 [false] [] [[]] = some a102 := by kernel_rfl
-- impl.leaves
def a103_r0 : List AOper := [⟨some 2, .new [.emp, .emp], none⟩]
def a103_r1 : List AOper := [⟨some 7, .mv (.t 0), none⟩,
  ⟨some 8, .len false (.t 7), none⟩,
  ⟨some 9, .bin .leq (.t 8) (.c (.i .i64 4)), none⟩]
def a103_r2 : List AOper := [⟨some 10, .mv (.t 0), none⟩,
  ⟨some 11, .build [.b false, .emp, .emp, .emp, .emp] [(0, 1, .c (.b true)), (1, 1, .t 10)], none⟩,
  ⟨some 12, .rowOf 5 [.b false, .emp, .emp, .emp, .emp] 1 [(0, .t 11)], none⟩,
  ⟨some 13, .build [.emp, .emp] [(0, 1, .t 12)], none⟩,
  ⟨none, .st 2 (.t 2) (.t 13), none⟩]
def a103_r3 : List AOper := [⟨some 14, .build [.emp, .emp] [], none⟩,
  ⟨some 3, .new [.emp, .emp], none⟩,
  ⟨none, .st 2 (.t 3) (.t 14), none⟩]
def a103_r4 : List AOper := [⟨some 15, .mv (.t 0), none⟩,
  ⟨some 16, .len false (.t 15), none⟩,
  ⟨some 17, .call (.c (.clo 149 [])) [.t 16], none⟩,
  ⟨some 4, .mv (.t 17), none⟩]
def a103_r5 : List AOper := [⟨some 18, .mv (.t 4), none⟩,
  ⟨some 19, .len false (.t 18), none⟩,
  ⟨some 20, .mv (.c (.i .i64 0)), none⟩]
def a103_r6 : List AOper := [⟨some 21, .bin .lss (.t 20) (.t 19), none⟩]
def a103_r7 : List AOper := [⟨some 22, .mv (.t 20), none⟩,
  ⟨some 23, .ia 1 (.t 18) (.t 20), none⟩,
  ⟨some 24, .ld 1 false (.t 23), none⟩,
  ⟨some 5, .mv (.t 22), none⟩,
  ⟨some 6, .mv (.t 24), none⟩]
def a103_r8 : List AOper := [⟨some 25, .mv (.t 5), none⟩,
  ⟨some 26, .bin .gtr (.t 25) (.c (.i .i64 0)), none⟩]
def a103_r9 : List AOper := [⟨some 27, .fa 1 (.t 3), none⟩,
  ⟨some 28, .ld 1 false (.t 27), none⟩,
  ⟨some 29, .mv (.t 0), none⟩,
  ⟨some 30, .mv (.t 6), none⟩,
  ⟨some 31, .ia 2 (.t 29) (.t 30), none⟩,
  ⟨some 32, .fa 0 (.t 31), none⟩,
  ⟨some 33, .ld 1 false (.t 32), none⟩,
  ⟨some 34, .rowOf 1 [.i .i64 0] 1 [(0, .t 33)], none⟩,
  ⟨some 35, .ap 1 8 (.t 28) (.t 34), none⟩,
  ⟨some 36, .fa 1 (.t 3), none⟩,
  ⟨none, .st 1 (.t 36) (.t 35), none⟩]
def a103_r10 : List AOper := [⟨some 37, .fa 0 (.t 3), none⟩,
  ⟨some 38, .ld 1 false (.t 37), none⟩,
  ⟨some 39, .mv (.t 0), none⟩,
  ⟨some 40, .mv (.t 6), none⟩,
  ⟨some 41, .mv (.t 4), none⟩,
  ⟨some 42, .mv (.t 5), none⟩,
  ⟨some 43, .mv (.t 0), none⟩,
  ⟨some 44, .len false (.t 43), none⟩,
  ⟨some 45, .call (.c (.clo 150 [])) [.t 41, .t 42, .t 44], none⟩,
  ⟨some 46, .sl 2 (.t 39) (some (.t 40)) (some (.t 45)) none, none⟩,
  ⟨some 47, .call (.c (.clo 53 [])) [.t 46], none⟩,
  ⟨some 48, .build [.b false, .emp, .emp, .emp, .emp] [(0, 1, .c (.b true)), (1, 1, .t 47)], none⟩,
  ⟨some 49, .rowOf 5 [.b false, .emp, .emp, .emp, .emp] 1 [(0, .t 48)], none⟩,
  ⟨some 50, .ap 5 104 (.t 38) (.t 49), none⟩,
  ⟨some 51, .fa 0 (.t 3), none⟩,
  ⟨none, .st 1 (.t 51) (.t 50), none⟩]
def a103_r11 : List AOper := [⟨some 52, .bin .add (.t 20) (.c (.i .i64 1)), none⟩,
  ⟨some 20, .mv (.t 52), none⟩]
def a103_l1 : ACode := .seq (.reg a103_r6 false []) (.seq (.cond (.t 21) (.skip) (.exit 0)) (.seq (.block 1 (.seq (.reg a103_r7 false []) (.seq (.seq (.reg a103_r8 false []) (.cond (.t 26) (.reg a103_r9 true [(1, 7)]) (.skip))) (.reg a103_r10 true [(1, 8), (1, 10), (1, 12)])))) (.reg a103_r11 false [])))
def a103_r12 : List AOper := [⟨some 53, .ld 2 true (.t 3), none⟩,
  ⟨none, .st 2 (.t 2) (.t 53), none⟩]
def a103 : AFn := ⟨[false], .seq (.reg a103_r0 false []) (.seq (.seq (.reg a103_r1 false []) (.cond (.t 9) (.seq (.reg a103_r2 false []) (.ret)) (.skip))) (.seq (.reg a103_r3 false []) (.seq (.reg a103_r4 false []) (.seq (.seq (.reg a103_r5 false []) (.block 0 (.loop [] a103_l1))) (.seq (.reg a103_r12 false []) (.ret)))))), [.cell 2 2 true], []⟩
theorem reads103 : readFn Tryz.prog Tryz.f103 [false] [] [[]] = some a103 := by kernel_rfl
-- slices.Clone[[]impl.Tree,impl.Tree]
def a104_r0 : List AOper := [⟨some 2, .mv (.c (.emp)), none⟩]
def a104_r1 : List AOper := [⟨some 3, .mv (.t 0), none⟩,
  ⟨some 4, .eqn false (.t 3), none⟩]
def a104_r2 : List AOper := [⟨some 2, .mv (.c (.emp)), none⟩]
def a104_r3 : List AOper := [⟨some 5, .rowOf 5 [.b false, .emp, .emp, .emp, .emp] 0 [], none⟩,
  ⟨some 6, .mv (.t 0), none⟩,
  ⟨some 7, .ap 5 104 (.t 5) (.t 6), none⟩,
  ⟨some 2, .mv (.t 7), none⟩]
def a104 : AFn := ⟨[false], .seq (.reg a104_r0 false []) (.seq (.seq (.reg a104_r1 false []) (.cond (.t 4) (.seq (.reg a104_r2 false []) (.ret)) (.skip))) (.seq (.reg a104_r3 false []) (.ret))), [.t 2], []⟩
theorem reads104 : readFn Tryz.prog Tryz.f104 [false] [] [] = some a104 := by kernel_rfl
-- impl.Shrink
def a105_r0 : List AOper := [⟨some 2, .mv (.c (.emp)), none⟩]
def a105_r1 : List AOper := [⟨some 9, .mv (.t 0), none⟩,
  ⟨some 10, .call (.c (.clo 101 [])) [.t 9], none⟩,
  ⟨some 11, .call (.c (.clo 109 [])) [.t 10, .c (.clo 151 [])], none⟩,
  ⟨some 3, .mv (.t 11), none⟩]
def a105_r2 : List AOper := [⟨some 12, .rowOf 3 [.i .i64 0, .i .i64 0, .i .i64 0] 0 [], none⟩,
  ⟨some 4, .mv (.t 12), none⟩]
def a105_r3 : List AOper := [⟨some 13, .mv (.t 3), none⟩,
  ⟨some 14, .len false (.t 13), none⟩,
  ⟨some 15, .mv (.c (.i .i64 0)), none⟩]
def a105_r4 : List AOper := [⟨some 16, .bin .lss (.t 15) (.t 14), none⟩]
def a105_r5 : List AOper := [⟨some 17, .mv (.t 15), none⟩,
  ⟨some 18, .ia 3 (.t 13) (.t 15), none⟩,
  ⟨some 19, .ld 3 true (.t 18), none⟩,
  ⟨some 6, .new [.i .i64 0, .i .i64 0, .i .i64 0], none⟩,
  ⟨some 5, .mv (.t 17), none⟩,
  ⟨none, .st 3 (.t 6) (.t 19), none⟩]
def a105_r6 : List AOper := [⟨some 20, .mv (.t 3), none⟩,
  ⟨some 21, .mv (.t 5), none⟩,
  ⟨some 22, .bin .add (.t 21) (.c (.i .i64 1)), none⟩,
  ⟨some 23, .sl 3 (.t 20) (some (.t 22)) none none, none⟩,
  ⟨some 24, .mf 152 [.t 6], none⟩,
  ⟨some 25, .call (.c (.clo 96 [])) [.t 23, .t 24], none⟩,
  ⟨some 7, .mv (.t 25), none⟩]
def a105_r7 : List AOper := [⟨some 26, .mv (.t 7), none⟩]
def a105_r8 : List AOper := [⟨some 27, .mv (.t 4), none⟩,
  ⟨some 28, .mf 154 [.t 6], none⟩,
  ⟨some 29, .call (.c (.clo 148 [])) [.t 27, .t 28], none⟩,
  ⟨some 8, .mv (.t 29), none⟩]
def a105_r9 : List AOper := [⟨some 30, .fa 0 (.t 6), none⟩,
  ⟨some 31, .ld 1 false (.t 30), none⟩,
  ⟨some 32, .bin .eql (.t 31) (.c (.i .i64 3)), none⟩,
  ⟨some 33, .mv (.t 32), none⟩,
  ⟨some 34, .mv (.t 8), some (33, true)⟩,
  ⟨some 35, .bin .geq (.t 34) (.c (.i .i64 0)), some (33, true)⟩,
  ⟨some 36, .pick (.t 33) (.t 35) (.c (.b false)), none⟩,
  ⟨some 37, .mv (.t 36), none⟩,
  ⟨some 38, .mv (.t 4), some (37, true)⟩,
  ⟨some 39, .mv (.t 8), some (37, true)⟩,
  ⟨some 40, .ia 3 (.t 38) (.t 39), some (37, true)⟩,
  ⟨some 41, .fa 0 (.t 40), some (37, true)⟩,
  ⟨some 42, .ld 1 false (.t 41), some (37, true)⟩,
  ⟨some 43, .bin .eql (.t 42) (.c (.i .i64 1)), some (37, true)⟩,
  ⟨some 44, .pick (.t 37) (.t 43) (.c (.b false)), none⟩]
def a105_r10 : List AOper := [⟨some 45, .mv (.t 4), none⟩,
  ⟨some 46, .mv (.t 8), none⟩,
  ⟨some 47, .mv (.t 4), none⟩,
  ⟨some 48, .mv (.t 8), none⟩,
  ⟨some 49, .ia 3 (.t 47) (.t 48), none⟩,
  ⟨some 50, .fa 2 (.t 49), none⟩,
  ⟨some 51, .ld 1 false (.t 50), none⟩,
  ⟨some 52, .fa 2 (.t 6), none⟩,
  ⟨some 53, .ld 1 false (.t 52), none⟩,
  ⟨some 54, .bin .add (.t 51) (.t 53), none⟩,
  ⟨some 55, .call (.c (.clo 117 [])) [.t 54], none⟩,
  ⟨some 56, .ia 3 (.t 45) (.t 46), none⟩,
  ⟨some 57, .fa 2 (.t 56), none⟩,
  ⟨none, .st 1 (.t 57) (.t 55), none⟩]
def a105_r11 : List AOper := [⟨some 58, .mv (.t 4), none⟩,
  ⟨some 59, .ld 3 true (.t 6), none⟩,
  ⟨some 60, .rowOf 3 [.i .i64 0, .i .i64 0, .i .i64 0] 1 [(0, .t 59)], none⟩,
  ⟨some 61, .ap 3 24 (.t 58) (.t 60), none⟩,
  ⟨some 4, .mv (.t 61), none⟩]
def a105_r12 : List AOper := [⟨some 62, .bin .add (.t 15) (.c (.i .i64 1)), none⟩,
  ⟨some 15, .mv (.t 62), none⟩]
def a105_l1 : ACode := .seq (.reg a105_r4 false []) (.seq (.cond (.t 16) (.skip) (.exit 0)) (.seq (.block 1 (.seq (.reg a105_r5 false []) (.seq (.reg a105_r6 false []) (.seq (.seq (.reg a105_r7 false []) (.cond (.t 26) (.exit 1) (.skip))) (.seq (.reg a105_r8 false []) (.seq (.seq (.reg a105_r9 false []) (.cond (.t 44) (.seq (.reg a105_r10 true []) (.exit 1)) (.skip))) (.reg a105_r11 false []))))))) (.reg a105_r12 false [])))
def a105_r13 : List AOper := [⟨some 63, .mv (.t 4), none⟩,
  ⟨some 2, .mv (.t 63), none⟩]
def a105 : AFn := ⟨[false], .seq (.reg a105_r0 false []) (.seq (.reg a105_r1 false []) (.seq (.reg a105_r2 false []) (.seq (.seq (.reg a105_r3 false []) (.block 0 (.loop [] a105_l1))) (.seq (.reg a105_r13 false []) (.ret))))), [.t 2], []⟩
theorem reads105 : readFn Tryz.prog Tryz.f105 [false] [] [[]] = some a105 := by kernel_rfl
-- slices.Concat[[]impl.Msg,impl.Msg]
def a106_r0 : List AOper := [⟨some 2, .mv (.c (.emp)), none⟩]
def a106_r1 : List AOper := [⟨some 3, .mv (.c (.i .i64 0)), none⟩]
def a106_r2 : List AOper := [⟨some 9, .mv (.t 0), none⟩,
  ⟨some 10, .len false (.t 9), none⟩,
  ⟨some 11, .mv (.c (.i .i64 0)), none⟩]
def a106_r3 : List AOper := [⟨some 12, .bin .lss (.t 11) (.t 10), none⟩]
def a106_r4 : List AOper := [⟨some 13, .ia 1 (.t 9) (.t 11), none⟩,
  ⟨some 14, .ld 1 false (.t 13), none⟩,
  ⟨some 5, .mv (.t 14), none⟩]
def a106_r5 : List AOper := [⟨some 15, .mv (.t 3), none⟩,
  ⟨some 16, .mv (.t 5), none⟩,
  ⟨some 17, .len false (.t 16), none⟩,
  ⟨some 18, .bin .add (.t 15) (.t 17), none⟩,
  ⟨some 3, .mv (.t 18), none⟩]
def a106_r6 : List AOper := [⟨some 19, .mv (.t 3), none⟩,
  ⟨some 20, .bin .lss (.t 19) (.c (.i .i64 0)), none⟩]
def a106_r7 : List AOper := [⟨some 21, .bad, none⟩,
  ⟨none, .bad, none⟩]
def a106_r8 : List AOper := [⟨some 22, .bin .add (.t 11) (.c (.i .i64 1)), none⟩,
  ⟨some 11, .mv (.t 22), none⟩]
def a106_l1 : ACode := .seq (.reg a106_r3 false []) (.seq (.cond (.t 12) (.skip) (.exit 0)) (.seq (.block 1 (.seq (.reg a106_r4 false []) (.seq (.reg a106_r5 false []) (.seq (.reg a106_r6 false []) (.cond (.t 20) (.reg a106_r7 false []) (.skip)))))) (.reg a106_r8 false [])))
def a106_r9 : List AOper := [⟨some 23, .mv (.t 3), none⟩,
  ⟨some 24, .call (.c (.clo 155 [])) [.c (.emp), .t 23], none⟩,
  ⟨some 6, .mv (.t 24), none⟩]
def a106_r10 : List AOper := [⟨some 25, .mv (.t 0), none⟩,
  ⟨some 26, .len false (.t 25), none⟩,
  ⟨some 27, .mv (.c (.i .i64 0)), none⟩]
def a106_r11 : List AOper := [⟨some 28, .bin .lss (.t 27) (.t 26), none⟩]
def a106_r12 : List AOper := [⟨some 29, .ia 1 (.t 25) (.t 27), none⟩,
  ⟨some 30, .ld 1 false (.t 29), none⟩,
  ⟨some 8, .mv (.t 30), none⟩]
def a106_r13 : List AOper := [⟨some 31, .mv (.t 6), none⟩,
  ⟨some 32, .mv (.t 8), none⟩,
  ⟨some 33, .ap 3 24 (.t 31) (.t 32), none⟩,
  ⟨some 6, .mv (.t 33), none⟩]
def a106_r14 : List AOper := [⟨some 34, .bin .add (.t 27) (.c (.i .i64 1)), none⟩,
  ⟨some 27, .mv (.t 34), none⟩]
def a106_l2 : ACode := .seq (.reg a106_r11 false []) (.seq (.cond (.t 28) (.skip) (.exit 2)) (.seq (.block 3 (.seq (.reg a106_r12 false []) (.reg a106_r13 false []))) (.reg a106_r14 false [])))
def a106_r15 : List AOper := [⟨some 35, .mv (.t 6), none⟩,
  ⟨some 2, .mv (.t 35), none⟩]
def a106 : AFn := ⟨[false], .seq (.reg a106_r0 false []) (.seq (.reg a106_r1 false []) (.seq (.seq (.reg a106_r2 false []) (.block 0 (.loop [] a106_l1))) (.seq (.reg a106_r9 false []) (.seq (.seq (.reg a106_r10 false []) (.block 2 (.loop [] a106_l2))) (.seq (.reg a106_r15 false []) (.ret)))))), [.t 2], []⟩
theorem reads106 : readFn Tryz.prog Tryz.f106 [false] [] [[], []] = some a106 := by kernel_rfl
-- impl.fullest
def a107_r0 : List AOper := [⟨some 2, .box (.t 0), none⟩,
  ⟨some 4, .mv (.c (.i .i64 0)), none⟩]
def a107_r1 : List AOper := [⟨some 5, .mv (.c (.i .i64 0)), none⟩,
  ⟨some 6, .mv (.c (.i .i64 (-1))), none⟩]
def a107_r2 : List AOper := [⟨some 9, .fa 0 (.t 2), none⟩,
  ⟨some 10, .ld 1 false (.t 9), none⟩,
  ⟨some 11, .len false (.t 10), none⟩,
  ⟨some 12, .mv (.c (.i .i64 0)), none⟩]
def a107_r3 : List AOper := [⟨some 13, .bin .lss (.t 12) (.t 11), none⟩]
def a107_r4 : List AOper := [⟨some 14, .mv (.t 12), none⟩,
  ⟨some 7, .mv (.t 14), none⟩]
def a107_r5 : List AOper := [⟨some 15, .fa 1 (.t 2), none⟩,
  ⟨some 16, .ld 1 false (.t 15), none⟩,
  ⟨some 17, .mv (.t 1), none⟩,
  ⟨some 18, .mv (.t 7), none⟩,
  ⟨some 19, .call (.c (.clo 108 [])) [.t 16, .t 17, .t 18], none⟩,
  ⟨some 20, .len false (.t 19), none⟩,
  ⟨some 8, .mv (.t 20), none⟩]
def a107_r6 : List AOper := [⟨some 21, .mv (.t 8), none⟩,
  ⟨some 22, .mv (.t 6), none⟩,
  ⟨some 23, .bin .gtr (.t 21) (.t 22), none⟩]
def a107_r7 : List AOper := [⟨some 24, .mv (.t 7), none⟩,
  ⟨some 25, .mv (.t 8), none⟩,
  ⟨some 5, .mv (.t 24), none⟩,
  ⟨some 6, .mv (.t 25), none⟩]
def a107_r8 : List AOper := [⟨some 26, .bin .add (.t 12) (.c (.i .i64 1)), none⟩,
  ⟨some 12, .mv (.t 26), none⟩]
def a107_l1 : ACode := .seq (.reg a107_r3 false []) (.seq (.cond (.t 13) (.skip) (.exit 0)) (.seq (.block 1 (.seq (.reg a107_r4 false []) (.seq (.reg a107_r5 false []) (.seq (.reg a107_r6 false []) (.cond (.t 23) (.reg a107_r7 false []) (.skip)))))) (.reg a107_r8 false [])))
def a107_r9 : List AOper := [⟨some 27, .mv (.t 5), none⟩,
  ⟨some 4, .mv (.t 27), none⟩]
def a107 : AFn := ⟨[false, false], .seq (.reg a107_r0 false []) (.seq (.reg a107_r1 false []) (.seq (.seq (.reg a107_r2 false []) (.block 0 (.loop [] a107_l1))) (.seq (.reg a107_r9 false []) (.ret)))), [.t 4], []⟩
theorem reads107 : readFn Tryz.prog Tryz.f107 [false, false] [] [[]] = some a107 := by kernel_rfl
-- impl.ofKid
def a108_r0 : List AOper := [⟨some 6, .mv (.c (.emp)), none⟩]
def a108_r1 : List AOper := [⟨some 10, .rowOf 3 [.i .i64 0, .i .i64 0, .i .i64 0] 0 [], none⟩,
  ⟨some 7, .mv (.t 10), none⟩]
def a108_r2 : List AOper := [⟨some 11, .mv (.t 1), none⟩,
  ⟨some 12, .len false (.t 11), none⟩,
  ⟨some 13, .mv (.c (.i .i64 0)), none⟩]
def a108_r3 : List AOper := [⟨some 14, .bin .lss (.t 13) (.t 12), none⟩]
def a108_r4 : List AOper := [⟨some 15, .ia 3 (.t 11) (.t 13), none⟩,
  ⟨some 16, .ld 3 true (.t 15), none⟩,
  ⟨some 9, .new [.i .i64 0, .i .i64 0, .i .i64 0], none⟩,
  ⟨none, .st 3 (.t 9) (.t 16), none⟩]
def a108_r5 : List AOper := [⟨some 17, .mv (.t 0), none⟩,
  ⟨some 18, .fa 1 (.t 9), none⟩,
  ⟨some 19, .ld 1 false (.t 18), none⟩,
  ⟨some 20, .call (.c (.clo 111 [])) [.t 17, .t 19], none⟩,
  ⟨some 21, .mv (.t 2), none⟩,
  ⟨some 22, .bin .eql (.t 20) (.t 21), none⟩]
def a108_r6 : List AOper := [⟨some 23, .mv (.t 7), none⟩,
  ⟨some 24, .ld 3 true (.t 9), none⟩,
  ⟨some 25, .rowOf 3 [.i .i64 0, .i .i64 0, .i .i64 0] 1 [(0, .t 24)], none⟩,
  ⟨some 26, .ap 3 24 (.t 23) (.t 25), none⟩,
  ⟨some 7, .mv (.t 26), none⟩]
def a108_r7 : List AOper := [⟨some 27, .bin .add (.t 13) (.c (.i .i64 1)), none⟩,
  ⟨some 13, .mv (.t 27), none⟩]
def a108_l1 : ACode := .seq (.reg a108_r3 false []) (.seq (.cond (.t 14) (.skip) (.exit 0)) (.seq (.block 1 (.seq (.reg a108_r4 false []) (.seq (.reg a108_r5 false []) (.cond (.t 22) (.reg a108_r6 false []) (.skip))))) (.reg a108_r7 false [])))
def a108_r8 : List AOper := [⟨some 28, .mv (.t 7), none⟩,
  ⟨some 6, .mv (.t 28), none⟩]
def a108 : AFn := ⟨[false, false, false], .seq (.reg a108_r0 false []) (.seq (.reg a108_r1 false []) (.seq (.seq (.reg a108_r2 false []) (.block 0 (.loop [] a108_l1))) (.seq (.reg a108_r8 false []) (.ret)))), [.t 6], []⟩
theorem reads108 : readFn Tryz.prog Tryz.f108 [false, false, false] [] [[]] = some a108 := by kernel_rfl
-- slices.DeleteFunc[[]impl.Msg,impl.Msg]
def a109_r0 : List AOper := [⟨some 4, .mv (.c (.emp)), none⟩]
def a109_r1 : List AOper := [⟨some 8, .mv (.t 0), none⟩,
  ⟨some 9, .mv (.t 1), none⟩,
  ⟨some 10, .call (.c (.clo 148 [])) [.t 8, .t 9], none⟩,
  ⟨some 5, .mv (.t 10), none⟩]
def a109_r2 : List AOper := [⟨some 11, .mv (.t 5), none⟩,
  ⟨some 12, .bin .eql (.t 11) (.c (.i .i64 (-1))), none⟩]
def a109_r3 : List AOper := [⟨some 13, .mv (.t 0), none⟩,
  ⟨some 4, .mv (.t 13), none⟩]
def a109_r4 : List AOper := [⟨some 14, .mv (.t 5), none⟩,
  ⟨some 15, .bin .add (.t 14) (.c (.i .i64 1)), none⟩,
  ⟨some 6, .mv (.t 15), none⟩]
def a109_r5 : List AOper := [⟨some 16, .mv (.t 6), none⟩,
  ⟨some 17, .mv (.t 0), none⟩,
  ⟨some 18, .len false (.t 17), none⟩,
  ⟨some 19, .bin .lss (.t 16) (.t 18), none⟩]
def a109_r7 : List AOper := [⟨some 22, .mv (.t 0), none⟩,
  ⟨some 23, .mv (.t 6), none⟩,
  ⟨some 24, .ia 3 (.t 22) (.t 23), none⟩,
  ⟨some 25, .ld 3 true (.t 24), none⟩,
  ⟨some 7, .new [.i .i64 0, .i .i64 0, .i .i64 0], none⟩,
  ⟨none, .st 3 (.t 7) (.t 25), none⟩]
def a109_r8 : List AOper := [⟨some 26, .mv (.t 1), none⟩,
  ⟨some 27, .ld 3 true (.t 7), none⟩,
  ⟨some 28, .call (.t 26) [.t 27], none⟩,
  ⟨some 29, .un .not (.t 28), none⟩]
def a109_r9 : List AOper := [⟨some 30, .mv (.t 0), none⟩,
  ⟨some 31, .mv (.t 5), none⟩,
  ⟨some 32, .ld 3 true (.t 7), none⟩,
  ⟨some 33, .ia 3 (.t 30) (.t 31), none⟩,
  ⟨none, .st 3 (.t 33) (.t 32), none⟩]
def a109_r10 : List AOper := [⟨some 34, .mv (.t 5), none⟩,
  ⟨some 35, .bin .add (.t 34) (.c (.i .i64 1)), none⟩,
  ⟨some 5, .mv (.t 35), none⟩]
def a109_r6 : List AOper := [⟨some 20, .mv (.t 6), none⟩,
  ⟨some 21, .bin .add (.t 20) (.c (.i .i64 1)), none⟩,
  ⟨some 6, .mv (.t 21), none⟩]
def a109_l1 : ACode := .seq (.seq (.reg a109_r5 false []) (.cond (.t 19) (.skip) (.exit 0))) (.seq (.block 1 (.seq (.reg a109_r7 false []) (.seq (.reg a109_r8 false []) (.cond (.t 29) (.seq (.reg a109_r9 false []) (.reg a109_r10 false [])) (.skip))))) (.reg a109_r6 false []))
def a109_r11 : List AOper := [⟨some 36, .mv (.t 0), none⟩,
  ⟨some 37, .mv (.t 5), none⟩,
  ⟨some 38, .sl 3 (.t 36) (some (.t 37)) none none, none⟩,
  ⟨none, .clr 3 [.i .i64 0, .i .i64 0, .i .i64 0] (.t 38), none⟩]
def a109_r12 : List AOper := [⟨some 39, .mv (.t 0), none⟩,
  ⟨some 40, .mv (.t 5), none⟩,
  ⟨some 41, .sl 3 (.t 39) none (some (.t 40)) none, none⟩,
  ⟨some 4, .mv (.t 41), none⟩]
def a109 : AFn := ⟨[true, false], .seq (.reg a109_r0 false []) (.seq (.reg a109_r1 false []) (.seq (.seq (.reg a109_r2 false []) (.cond (.t 12) (.seq (.reg a109_r3 false []) (.ret)) (.skip))) (.seq (.seq (.reg a109_r4 false []) (.block 0 (.loop [] a109_l1))) (.seq (.reg a109_r11 false []) (.seq (.reg a109_r12 false []) (.ret)))))), [.t 4], []⟩
theorem reads109 : readFn Tryz.prog Tryz.f109 [true, false] [] [[]] = some a109 := by kernel_rfl
-- impl.give$1
def a110_r0 : List AOper := [⟨some 3, .box (.t 0), none⟩,
  ⟨some 4, .mv (.c (.b false)), none⟩]
def a110_r1 : List AOper := [⟨some 5, .ld 1 false (.t 1), none⟩,
  ⟨some 6, .fa 1 (.t 3), none⟩,
  ⟨some 7, .ld 1 false (.t 6), none⟩,
  ⟨some 8, .call (.c (.clo 111 [])) [.t 5, .t 7], none⟩,
  ⟨some 9, .ld 1 false (.t 2), none⟩,
  ⟨some 10, .bin .eql (.t 8) (.t 9), none⟩,
  ⟨some 4, .mv (.t 10), none⟩]
def a110 : AFn := ⟨[false, false, false], .seq (.reg a110_r0 false []) (.seq (.reg a110_r1 true [(3, 4)]) (.ret)), [.t 4], []⟩
theorem reads110 : readFn Tryz.prog Tryz.f110 [false, false, false] [] [] = some a110 := by kernel_rfl
-- impl.kidOf
def a111_r0 : List AOper := [⟨some 4, .mv (.c (.i .i64 0)), none⟩]
def a111_r1 : List AOper := [⟨some 5, .mv (.c (.i .i64 0)), none⟩]
def a111_r2 : List AOper := [⟨some 8, .mv (.t 0), none⟩,
  ⟨some 9, .len false (.t 8), none⟩,
  ⟨some 10, .mv (.c (.i .i64 0)), none⟩]
def a111_r3 : List AOper := [⟨some 11, .bin .lss (.t 10) (.t 9), none⟩]
def a111_r4 : List AOper := [⟨some 12, .ia 1 (.t 8) (.t 10), none⟩,
  ⟨some 13, .ld 1 false (.t 12), none⟩,
  ⟨some 7, .mv (.t 13), none⟩]
def a111_r5 : List AOper := [⟨some 14, .mv (.t 7), none⟩,
  ⟨some 15, .mv (.t 1), none⟩,
  ⟨some 16, .bin .leq (.t 14) (.t 15), none⟩]
def a111_r6 : List AOper := [⟨some 17, .mv (.t 5), none⟩,
  ⟨some 18, .bin .add (.t 17) (.c (.i .i64 1)), none⟩,
  ⟨some 5, .mv (.t 18), none⟩]
def a111_r7 : List AOper := [⟨some 19, .bin .add (.t 10) (.c (.i .i64 1)), none⟩,
  ⟨some 10, .mv (.t 19), none⟩]
def a111_l1 : ACode := .seq (.reg a111_r3 false []) (.seq (.cond (.t 11) (.skip) (.exit 0)) (.seq (.block 1 (.seq (.reg a111_r4 false []) (.seq (.reg a111_r5 false []) (.cond (.t 16) (.reg a111_r6 false []) (.skip))))) (.reg a111_r7 false [])))
def a111_r8 : List AOper := [⟨some 20, .mv (.t 5), none⟩,
  ⟨some 4, .mv (.t 20), none⟩]
def a111 : AFn := ⟨[false, false], .seq (.reg a111_r0 false []) (.seq (.reg a111_r1 false []) (.seq (.seq (.reg a111_r2 false []) (.block 0 (.loop [] a111_l1))) (.seq (.reg a111_r8 false []) (.ret)))), [.t 4], []⟩
theorem reads111 : readFn Tryz.prog Tryz.f111 [false, false] [] [[]] = some a111 := by kernel_rfl
-- (impl.row).put
def a112_r0 : List AOper := [⟨some 3, .box (.t 0), none⟩,
  ⟨some 5, .box (.t 2), none⟩,
  ⟨some 6, .new [.emp, .emp], none⟩]
def a112_r1 : List AOper := [⟨some 7, .fa 0 (.t 3), none⟩,
  ⟨some 8, .ld 1 false (.t 7), none⟩,
  ⟨some 9, .mv (.t 1), none⟩,
  ⟨some 10, .sl 5 (.t 8) none (some (.t 9)) none, none⟩,
  ⟨some 11, .fa 0 (.t 5), none⟩,
  ⟨some 12, .ld 1 false (.t 11), none⟩,
  ⟨some 13, .fa 0 (.t 3), none⟩,
  ⟨some 14, .ld 1 false (.t 13), none⟩,
  ⟨some 15, .mv (.t 1), none⟩,
  ⟨some 16, .bin .add (.t 15) (.c (.i .i64 1)), none⟩,
  ⟨some 17, .sl 5 (.t 14) (some (.t 16)) none none, none⟩,
  ⟨some 18, .rowOf 1 [.emp] 3 [(0, .t 10), (1, .t 12), (2, .t 17)], none⟩,
  ⟨some 19, .call (.c (.clo 156 [])) [.t 18], none⟩,
  ⟨some 20, .fa 1 (.t 3), none⟩,
  ⟨some 21, .ld 1 false (.t 20), none⟩,
  ⟨some 22, .mv (.t 1), none⟩,
  ⟨some 23, .sl 1 (.t 21) none (some (.t 22)) none, none⟩,
  ⟨some 24, .fa 1 (.t 5), none⟩,
  ⟨some 25, .ld 1 false (.t 24), none⟩,
  ⟨some 26, .fa 1 (.t 3), none⟩,
  ⟨some 27, .ld 1 false (.t 26), none⟩,
  ⟨some 28, .mv (.t 1), none⟩,
  ⟨some 29, .sl 1 (.t 27) (some (.t 28)) none none, none⟩,
  ⟨some 30, .rowOf 1 [.emp] 3 [(0, .t 23), (1, .t 25), (2, .t 29)], none⟩,
  ⟨some 31, .call (.c (.clo 157 [])) [.t 30], none⟩,
  ⟨some 32, .build [.emp, .emp] [(0, 1, .t 19), (1, 1, .t 31)], none⟩,
  ⟨none, .st 2 (.t 6) (.t 32), none⟩]
def a112 : AFn := ⟨[false, false, false], .seq (.reg a112_r0 false []) (.seq (.reg a112_r1 true [(11, 14), (12, 14), (11, 16), (12, 16), (11, 18), (12, 18), (11, 20), (12, 20), (11, 22), (12, 22), (1, 23), (3, 23), (5, 23), (7, 23), (10, 23), (11, 23), (12, 23)]) (.ret)), [.cell 6 2 true], []⟩
theorem reads112 : readFn Tryz.prog Tryz.f112 [false, false, false] [] [] = some a112 := by kernel_rfl
-- impl.down
def a113_r0 : List AOper := [⟨some 2, .box (.t 0), none⟩,
  ⟨some 4, .new [.emp, .emp], none⟩]
def a113_r1 : List AOper := [⟨some 10, .build [.emp, .emp] [], none⟩,
  ⟨some 5, .new [.emp, .emp], none⟩,
  ⟨none, .st 2 (.t 5) (.t 10), none⟩]
def a113_r2 : List AOper := [⟨some 11, .fa 0 (.t 2), none⟩,
  ⟨some 12, .ld 1 false (.t 11), none⟩,
  ⟨some 13, .len false (.t 12), none⟩,
  ⟨some 14, .mv (.c (.i .i64 0)), none⟩]
def a113_r3 : List AOper := [⟨some 15, .bin .lss (.t 14) (.t 13), none⟩]
def a113_r4 : List AOper := [⟨some 16, .mv (.t 14), none⟩,
  ⟨some 17, .ia 5 (.t 12) (.t 14), none⟩,
  ⟨some 18, .ld 5 true (.t 17), none⟩,
  ⟨some 7, .new [.b false, .emp, .emp, .emp, .emp], none⟩,
  ⟨some 6, .mv (.t 16), none⟩,
  ⟨none, .st 5 (.t 7) (.t 18), none⟩]
def a113_r5 : List AOper := [⟨some 19, .ld 5 true (.t 7), none⟩,
  ⟨some 20, .rowOf 5 [.b false, .emp, .emp, .emp, .emp] 1 [(0, .t 19)], none⟩,
  ⟨some 21, .build [.emp, .emp] [(0, 1, .t 20)], none⟩,
  ⟨some 8, .new [.emp, .emp], none⟩,
  ⟨none, .st 2 (.t 8) (.t 21), none⟩]
def a113_r6 : List AOper := [⟨some 22, .fa 1 (.t 2), none⟩,
  ⟨some 23, .ld 1 false (.t 22), none⟩,
  ⟨some 24, .mv (.t 1), none⟩,
  ⟨some 25, .mv (.t 6), none⟩,
  ⟨some 26, .call (.c (.clo 108 [])) [.t 23, .t 24, .t 25], none⟩,
  ⟨some 9, .mv (.t 26), none⟩]
def a113_r7 : List AOper := [⟨some 27, .mv (.t 9), none⟩,
  ⟨some 28, .len false (.t 27), none⟩,
  ⟨some 29, .bin .gtr (.t 28) (.c (.i .i64 0)), none⟩]
def a113_r8 : List AOper := [⟨some 30, .ld 5 true (.t 7), none⟩,
  ⟨some 31, .mv (.t 9), none⟩,
  ⟨some 32, .call (.c (.clo 52 [])) [.t 30, .t 31], none⟩,
  ⟨none, .st 2 (.t 8) (.t 32), none⟩]
def a113_r9 : List AOper := [⟨some 33, .mv (.t 6), none⟩,
  ⟨some 34, .bin .gtr (.t 33) (.c (.i .i64 0)), none⟩]
def a113_r10 : List AOper := [⟨some 35, .fa 1 (.t 5), none⟩,
  ⟨some 36, .ld 1 false (.t 35), none⟩,
  ⟨some 37, .fa 1 (.t 2), none⟩,
  ⟨some 38, .ld 1 false (.t 37), none⟩,
  ⟨some 39, .mv (.t 6), none⟩,
  ⟨some 40, .bin .sub (.t 39) (.c (.i .i64 1)), none⟩,
  ⟨some 41, .ia 1 (.t 38) (.t 40), none⟩,
  ⟨some 42, .ld 1 false (.t 41), none⟩,
  ⟨some 43, .rowOf 1 [.i .i64 0] 1 [(0, .t 42)], none⟩,
  ⟨some 44, .ap 1 8 (.t 36) (.t 43), none⟩,
  ⟨some 45, .fa 1 (.t 5), none⟩,
  ⟨none, .st 1 (.t 45) (.t 44), none⟩]
def a113_r11 : List AOper := [⟨some 46, .fa 0 (.t 5), none⟩,
  ⟨some 47, .ld 1 false (.t 46), none⟩,
  ⟨some 48, .fa 0 (.t 8), none⟩,
  ⟨some 49, .ld 1 false (.t 48), none⟩,
  ⟨some 50, .ap 5 104 (.t 47) (.t 49), none⟩,
  ⟨some 51, .fa 0 (.t 5), none⟩,
  ⟨none, .st 1 (.t 51) (.t 50), none⟩]
def a113_r12 : List AOper := [⟨some 52, .fa 1 (.t 5), none⟩,
  ⟨some 53, .ld 1 false (.t 52), none⟩,
  ⟨some 54, .fa 1 (.t 8), none⟩,
  ⟨some 55, .ld 1 false (.t 54), none⟩,
  ⟨some 56, .ap 1 8 (.t 53) (.t 55), none⟩,
  ⟨some 57, .fa 1 (.t 5), none⟩,
  ⟨none, .st 1 (.t 57) (.t 56), none⟩]
def a113_r13 : List AOper := [⟨some 58, .bin .add (.t 14) (.c (.i .i64 1)), none⟩,
  ⟨some 14, .mv (.t 58), none⟩]
def a113_l1 : ACode := .seq (.reg a113_r3 false []) (.seq (.cond (.t 15) (.skip) (.exit 0)) (.seq (.block 1 (.seq (.reg a113_r4 false []) (.seq (.reg a113_r5 false []) (.seq (.seq (.reg a113_r6 false []) (.seq (.reg a113_r7 false []) (.cond (.t 29) (.reg a113_r8 false []) (.skip)))) (.seq (.seq (.reg a113_r9 false []) (.cond (.t 34) (.reg a113_r10 true [(1, 8)]) (.skip))) (.seq (.reg a113_r11 false []) (.reg a113_r12 false []))))))) (.reg a113_r13 false [])))
def a113_r14 : List AOper := [⟨some 59, .ld 2 true (.t 5), none⟩,
  ⟨none, .st 2 (.t 4) (.t 59), none⟩]
def a113 : AFn := ⟨[false, false], .seq (.reg a113_r0 false []) (.seq (.reg a113_r1 false []) (.seq (.seq (.reg a113_r2 false []) (.block 0 (.loop [] a113_l1))) (.seq (.reg a113_r14 false []) (.ret)))), [.cell 4 2 true], []⟩
theorem reads113 : readFn Tryz.prog Tryz.f113 [false, false] [] [[]] = some a113 := by kernel_rfl
-- slices.BinarySearchFunc[[]impl.Pair,impl.Pair,int]
def a114_r0 : List AOper := [⟨some 6, .mv (.c (.i .i64 0)), none⟩,
  ⟨some 7, .mv (.c (.b false)), none⟩]
def a114_r1 : List AOper := [⟨some 12, .mv (.t 0), none⟩,
  ⟨some 13, .len false (.t 12), none⟩,
  ⟨some 8, .mv (.t 13), none⟩]
def a114_r2 : List AOper := [⟨some 14, .mv (.t 8), none⟩,
  ⟨some 9, .mv (.c (.i .i64 0)), none⟩,
  ⟨some 10, .mv (.t 14), none⟩]
def a114_r3 : List AOper := [⟨some 15, .mv (.t 9), none⟩,
  ⟨some 16, .mv (.t 10), none⟩,
  ⟨some 17, .bin .lss (.t 15) (.t 16), none⟩]
def a114_r4 : List AOper := [⟨some 18, .mv (.t 9), none⟩,
  ⟨some 19, .mv (.t 10), none⟩,
  ⟨some 20, .bin .add (.t 18) (.t 19), none⟩,
  ⟨some 21, .cvI .u64 (.t 20), none⟩,
  ⟨some 22, .bin .shr (.t 21) (.c (.i .u64 1)), none⟩,
  ⟨some 23, .cvI .i64 (.t 22), none⟩,
  ⟨some 11, .mv (.t 23), none⟩]
def a114_r5 : List AOper := [⟨some 24, .mv (.t 2), none⟩,
  ⟨some 25, .mv (.t 0), none⟩,
  ⟨some 26, .mv (.t 11), none⟩,
  ⟨some 27, .ia 2 (.t 25) (.t 26), none⟩,
  ⟨some 28, .ld 2 true (.t 27), none⟩,
  ⟨some 29, .mv (.t 1), none⟩,
  ⟨some 30, .call (.t 24) [.t 28, .t 29], none⟩,
  ⟨some 31, .bin .lss (.t 30) (.c (.i .i64 0)), none⟩]
def a114_r6 : List AOper := [⟨some 32, .mv (.t 11), none⟩,
  ⟨some 33, .bin .add (.t 32) (.c (.i .i64 1)), none⟩,
  ⟨some 9, .mv (.t 33), none⟩]
def a114_r7 : List AOper := [⟨some 34, .mv (.t 11), none⟩,
  ⟨some 10, .mv (.t 34), none⟩]
def a114_l1 : ACode := .seq (.seq (.reg a114_r3 false []) (.cond (.t 17) (.skip) (.exit 0))) (.block 1 (.seq (.reg a114_r4 false []) (.seq (.reg a114_r5 false []) (.cond (.t 31) (.reg a114_r6 false []) (.reg a114_r7 false [])))))
def a114_r8 : List AOper := [⟨some 35, .mv (.t 9), none⟩,
  ⟨some 36, .mv (.t 9), none⟩,
  ⟨some 37, .mv (.t 8), none⟩,
  ⟨some 38, .bin .lss (.t 36) (.t 37), none⟩,
  ⟨some 39, .mv (.t 38), none⟩,
  ⟨some 40, .mv (.t 2), some (39, true)⟩,
  ⟨some 41, .mv (.t 0), some (39, true)⟩,
  ⟨some 42, .mv (.t 9), some (39, true)⟩,
  ⟨some 43, .ia 2 (.t 41) (.t 42), some (39, true)⟩,
  ⟨some 44, .ld 2 true (.t 43), some (39, true)⟩,
  ⟨some 45, .mv (.t 1), some (39, true)⟩,
  ⟨some 46, .call (.t 40) [.t 44, .t 45], some (39, true)⟩,
  ⟨some 47, .bin .eql (.t 46) (.c (.i .i64 0)), some (39, true)⟩,
  ⟨some 48, .pick (.t 39) (.t 47) (.c (.b false)), none⟩,
  ⟨some 6, .mv (.t 35), none⟩,
  ⟨some 7, .mv (.t 48), none⟩]
def a114 : AFn := ⟨[false, false, false], .seq (.reg a114_r0 false []) (.seq (.reg a114_r1 false []) (.seq (.reg a114_r2 false []) (.seq (.block 0 (.loop [] a114_l1)) (.seq (.reg a114_r8 false []) (.ret))))), [.t 6, .t 7], []⟩
theorem reads114 : readFn Tryz.prog Tryz.f114 [false, false, false] [] [[]] = some a114 := by kernel_rfl
-- impl.changed$1
def a115_r0 : List AOper := [⟨some 2, .box (.t 0), none⟩,
  ⟨some 4, .mv (.c (.i .i64 0)), none⟩]
def a115_r1 : List AOper := [⟨some 5, .fa 0 (.t 2), none⟩,
  ⟨some 6, .ld 1 false (.t 5), none⟩,
  ⟨some 7, .mv (.t 1), none⟩,
  ⟨some 8, .bin .sub (.t 6) (.t 7), none⟩,
  ⟨some 4, .mv (.t 8), none⟩]
def a115 : AFn := ⟨[false, false], .seq (.reg a115_r0 false []) (.seq (.reg a115_r1 false []) (.ret)), [.t 4], []⟩
theorem reads115 : readFn Tryz.prog Tryz.f115 [false, false] [] [] = some a115 := by kernel_rfl
-- slices.Delete[[]impl.Pair,impl.Pair]
def a116_r0 : List AOper := [⟨some 6, .mv (.c (.emp)), none⟩]
def a116_r1 : List AOper := [⟨some 8, .mv (.t 0), none⟩,
  ⟨some 9, .mv (.t 1), none⟩,
  ⟨some 10, .mv (.t 2), none⟩,
  ⟨some 11, .mv (.t 0), none⟩,
  ⟨some 12, .len false (.t 11), none⟩,
  ⟨some 13, .sl 2 (.t 8) (some (.t 9)) (some (.t 10)) (some (.t 12)), none⟩]
def a116_r2 : List AOper := [⟨some 14, .mv (.t 1), none⟩,
  ⟨some 15, .mv (.t 2), none⟩,
  ⟨some 16, .bin .eql (.t 14) (.t 15), none⟩]
def a116_r3 : List AOper := [⟨some 17, .mv (.t 0), none⟩,
  ⟨some 6, .mv (.t 17), none⟩]
def a116_r4 : List AOper := [⟨some 18, .mv (.t 0), none⟩,
  ⟨some 19, .len false (.t 18), none⟩,
  ⟨some 7, .mv (.t 19), none⟩]
def a116_r5 : List AOper := [⟨some 20, .mv (.t 0), none⟩,
  ⟨some 21, .mv (.t 1), none⟩,
  ⟨some 22, .sl 2 (.t 20) none (some (.t 21)) none, none⟩,
  ⟨some 23, .mv (.t 0), none⟩,
  ⟨some 24, .mv (.t 2), none⟩,
  ⟨some 25, .sl 2 (.t 23) (some (.t 24)) none none, none⟩,
  ⟨some 26, .ap 2 16 (.t 22) (.t 25), none⟩,
  ⟨some 0, .mv (.t 26), none⟩]
def a116_r6 : List AOper := [⟨some 27, .mv (.t 0), none⟩,
  ⟨some 28, .mv (.t 0), none⟩,
  ⟨some 29, .len false (.t 28), none⟩,
  ⟨some 30, .mv (.t 7), none⟩,
  ⟨some 31, .sl 2 (.t 27) (some (.t 29)) (some (.t 30)) none, none⟩,
  ⟨none, .clr 2 [.i .i64 0, .i .i64 0] (.t 31), none⟩]
def a116_r7 : List AOper := [⟨some 32, .mv (.t 0), none⟩,
  ⟨some 6, .mv (.t 32), none⟩]
def a116 : AFn := ⟨[true, false, false], .seq (.reg a116_r0 false []) (.seq (.reg a116_r1 false []) (.seq (.seq (.reg a116_r2 false []) (.cond (.t 16) (.seq (.reg a116_r3 false []) (.ret)) (.skip))) (.seq (.reg a116_r4 false []) (.seq (.reg a116_r5 true []) (.seq (.reg a116_r6 false []) (.seq (.reg a116_r7 false []) (.ret))))))), [.t 6], [0]⟩
theorem reads116 : readFn Tryz.prog Tryz.f116 [true, false, false] [0] [] = some a116 := by kernel_rfl
-- impl.limited
def a117_r0 : List AOper := [⟨some 2, .mv (.c (.i .i64 0)), none⟩]
def a117_r1 : List AOper := [⟨some 3, .mv (.t 0), none⟩,
  ⟨some 4, .mni (.t 3) (.c (.i .i64 1000000000)), none⟩,
  ⟨some 5, .mxi (.c (.i .i64 (-1000000000))) (.t 4), none⟩,
  ⟨some 2, .mv (.t 5), none⟩]
def a117 : AFn := ⟨[false], .seq (.reg a117_r0 false []) (.seq (.reg a117_r1 false []) (.ret)), [.t 2], []⟩
theorem reads117 : readFn Tryz.prog Tryz.f117 [false] [] [] = some a117 := by kernel_rfl
-- slices.Insert[[]impl.Pair,impl.Pair]
def a118_r0 : List AOper := [⟨some 6, .mv (.c (.emp)), none⟩]
def a118_r1 : List AOper := [⟨some 10, .mv (.t 0), none⟩,
  ⟨some 11, .mv (.t 1), none⟩,
  ⟨some 12, .sl 2 (.t 10) (some (.t 11)) none none, none⟩]
def a118_r2 : List AOper := [⟨some 13, .mv (.t 2), none⟩,
  ⟨some 14, .len false (.t 13), none⟩,
  ⟨some 7, .mv (.t 14), none⟩]
def a118_r3 : List AOper := [⟨some 15, .mv (.t 7), none⟩,
  ⟨some 16, .bin .eql (.t 15) (.c (.i .i64 0)), none⟩]
def a118_r4 : List AOper := [⟨some 17, .mv (.t 0), none⟩,
  ⟨some 6, .mv (.t 17), none⟩]
def a118_r5 : List AOper := [⟨some 18, .mv (.t 0), none⟩,
  ⟨some 19, .len false (.t 18), none⟩,
  ⟨some 8, .mv (.t 19), none⟩]
def a118_r6 : List AOper := [⟨some 20, .mv (.t 1), none⟩,
  ⟨some 21, .mv (.t 8), none⟩,
  ⟨some 22, .bin .eql (.t 20) (.t 21), none⟩]
def a118_r7 : List AOper := [⟨some 23, .mv (.t 0), none⟩,
  ⟨some 24, .mv (.t 2), none⟩,
  ⟨some 25, .ap 2 16 (.t 23) (.t 24), none⟩,
  ⟨some 6, .mv (.t 25), none⟩]
def a118_r8 : List AOper := [⟨some 26, .mv (.t 8), none⟩,
  ⟨some 27, .mv (.t 7), none⟩,
  ⟨some 28, .bin .add (.t 26) (.t 27), none⟩,
  ⟨some 29, .mv (.t 0), none⟩,
  ⟨some 30, .cap (.t 29), none⟩,
  ⟨some 31, .bin .gtr (.t 28) (.t 30), none⟩]
def a118_r9 : List AOper := [⟨some 32, .mv (.t 0), none⟩,
  ⟨some 33, .mv (.t 1), none⟩,
  ⟨some 34, .sl 2 (.t 32) none (some (.t 33)) none, none⟩,
  ⟨some 35, .mv (.t 8), none⟩,
  ⟨some 36, .mv (.t 7), none⟩,
  ⟨some 37, .bin .add (.t 35) (.t 36), none⟩,
  ⟨some 38, .mv (.t 1), none⟩,
  ⟨some 39, .bin .sub (.t 37) (.t 38), none⟩,
  ⟨some 40, .apz 2 16 [.i .i64 0, .i .i64 0] (.t 34) (.t 39), none⟩,
  ⟨some 9, .mv (.t 40), none⟩]
def a118_r10 : List AOper := [⟨some 41, .mv (.t 9), none⟩,
  ⟨some 42, .mv (.t 1), none⟩,
  ⟨some 43, .sl 2 (.t 41) (some (.t 42)) none none, none⟩,
  ⟨some 44, .mv (.t 2), none⟩,
  ⟨some 45, .bad, none⟩]
def a118_r11 : List AOper := [⟨some 46, .mv (.t 9), none⟩,
  ⟨some 47, .mv (.t 1), none⟩,
  ⟨some 48, .mv (.t 7), none⟩,
  ⟨some 49, .bin .add (.t 47) (.t 48), none⟩,
  ⟨some 50, .sl 2 (.t 46) (some (.t 49)) none none, none⟩,
  ⟨some 51, .mv (.t 0), none⟩,
  ⟨some 52, .mv (.t 1), none⟩,
  ⟨some 53, .sl 2 (.t 51) (some (.t 52)) none none, none⟩,
  ⟨some 54, .bad, none⟩]
def a118_r12 : List AOper := [⟨some 55, .mv (.t 9), none⟩,
  ⟨some 6, .mv (.t 55), none⟩]
def a118_r13 : List AOper := [⟨some 56, .mv (.t 0), none⟩,
  ⟨some 57, .mv (.t 8), none⟩,
  ⟨some 58, .mv (.t 7), none⟩,
  ⟨some 59, .bin .add (.t 57) (.t 58), none⟩,
  ⟨some 60, .sl 2 (.t 56) none (some (.t 59)) none, none⟩,
  ⟨some 0, .mv (.t 60), none⟩]
def a118_r14 : List AOper := [⟨some 61, .mv (.t 2), none⟩,
  ⟨some 62, .mv (.t 0), none⟩,
  ⟨some 63, .mv (.t 1), none⟩,
  ⟨some 64, .mv (.t 7), none⟩,
  ⟨some 65, .bin .add (.t 63) (.t 64), none⟩,
  ⟨some 66, .sl 2 (.t 62) (some (.t 65)) none none, none⟩,
  ⟨some 67, .call (.c (.clo 158 [])) [.t 61, .t 66], none⟩,
  ⟨some 68, .un .not (.t 67), none⟩]
def a118_r15 : List AOper := [⟨some 69, .mv (.t 0), none⟩,
  ⟨some 70, .mv (.t 1), none⟩,
  ⟨some 71, .mv (.t 7), none⟩,
  ⟨some 72, .bin .add (.t 70) (.t 71), none⟩,
  ⟨some 73, .sl 2 (.t 69) (some (.t 72)) none none, none⟩,
  ⟨some 74, .mv (.t 0), none⟩,
  ⟨some 75, .mv (.t 1), none⟩,
  ⟨some 76, .sl 2 (.t 74) (some (.t 75)) none none, none⟩,
  ⟨some 77, .bad, none⟩]
def a118_r16 : List AOper := [⟨some 78, .mv (.t 0), none⟩,
  ⟨some 79, .mv (.t 1), none⟩,
  ⟨some 80, .sl 2 (.t 78) (some (.t 79)) none none, none⟩,
  ⟨some 81, .mv (.t 2), none⟩,
  ⟨some 82, .bad, none⟩]
def a118_r17 : List AOper := [⟨some 83, .mv (.t 0), none⟩,
  ⟨some 6, .mv (.t 83), none⟩]
def a118_r18 : List AOper := [⟨some 84, .mv (.t 0), none⟩,
  ⟨some 85, .mv (.t 8), none⟩,
  ⟨some 86, .sl 2 (.t 84) (some (.t 85)) none none, none⟩,
  ⟨some 87, .mv (.t 2), none⟩,
  ⟨some 88, .bad, none⟩]
def a118_r19 : List AOper := [⟨some 89, .mv (.t 0), none⟩,
  ⟨some 90, .mv (.t 1), none⟩,
  ⟨some 91, .sl 2 (.t 89) (some (.t 90)) none none, none⟩,
  ⟨some 92, .mv (.t 7), none⟩,
  ⟨some 93, .call (.c (.clo 159 [])) [.t 91, .t 92], none⟩]
def a118_r20 : List AOper := [⟨some 94, .mv (.t 0), none⟩,
  ⟨some 6, .mv (.t 94), none⟩]
def a118 : AFn := ⟨[true, false, false], .seq (.reg a118_r0 false []) (.seq (.reg a118_r1 false []) (.seq (.reg a118_r2 false []) (.seq (.seq (.reg a118_r3 false []) (.cond (.t 16) (.seq (.reg a118_r4 false []) (.ret)) (.skip))) (.seq (.reg a118_r5 false []) (.seq (.seq (.reg a118_r6 false []) (.cond (.t 22) (.seq (.reg a118_r7 false []) (.ret)) (.skip))) (.seq (.seq (.reg a118_r8 false []) (.cond (.t 31) (.seq (.reg a118_r9 false []) (.seq (.reg a118_r10 false []) (.seq (.reg a118_r11 true []) (.seq (.reg a118_r12 false []) (.ret))))) (.skip))) (.seq (.reg a118_r13 false []) (.seq (.seq (.reg a118_r14 false []) (.cond (.t 68) (.seq (.reg a118_r15 true []) (.seq (.reg a118_r16 false []) (.seq (.reg a118_r17 false []) (.ret)))) (.skip))) (.seq (.reg a118_r18 false []) (.seq (.reg a118_r19 false []) (.seq (.reg a118_r20 false []) (.ret)))))))))))), [.t 6], [0]⟩
theorem reads118 : readFn Tryz.prog Tryz.f118 [true, false, false] [0] [] = some a118 := by kernel_rfl
-- spec.l1In
def a119_r0 : List AOper := [⟨some 6, .mv (.c (.b false)), none⟩]
def a119_r1 : List AOper := [⟨some 7, .mv (.t 0), none⟩,
  ⟨some 8, .mv (.t 1), none⟩,
  ⟨some 9, .bin .geq (.t 7) (.t 8), none⟩,
  ⟨some 10, .mv (.t 9), none⟩,
  ⟨some 11, .mv (.t 0), some (10, true)⟩,
  ⟨some 12, .mv (.t 2), some (10, true)⟩,
  ⟨some 13, .bin .leq (.t 11) (.t 12), some (10, true)⟩,
  ⟨some 14, .pick (.t 10) (.t 13) (.c (.b false)), none⟩,
  ⟨some 6, .mv (.t 14), none⟩]
def a119 : AFn := ⟨[false, false, false], .seq (.reg a119_r0 false []) (.seq (.reg a119_r1 false []) (.ret)), [.t 6], []⟩
theorem reads119 : readFn Tryz.prog Tryz.f119 [false, false, false] [] [] = some a119 := by kernel_rfl
-- spec.l1Value
def a120_r0 : List AOper := [⟨some 2, .mv (.c (.b false)), none⟩]
def a120_r1 : List AOper := [⟨some 3, .mv (.t 0), none⟩,
  ⟨some 4, .call (.c (.clo 119 [])) [.t 3, .c (.i .i64 (-1000000000)), .c (.i .i64 1000000000)], none⟩,
  ⟨some 2, .mv (.t 4), none⟩]
def a120 : AFn := ⟨[false], .seq (.reg a120_r0 false []) (.seq (.reg a120_r1 false []) (.ret)), [.t 2], []⟩
theorem reads120 : readFn Tryz.prog Tryz.f120 [false] [] [] = some a120 := by kernel_rfl
-- spec.l4Pack
def a121_r0 : List AOper := [⟨some 1, .box (.t 0), none⟩,
  ⟨some 2, .new [.emp, .emp], none⟩]
def a121_r1 : List AOper := [⟨some 7, .build [.emp, .emp] [], none⟩,
  ⟨some 3, .new [.emp, .emp], none⟩,
  ⟨none, .st 2 (.t 3) (.t 7), none⟩]
def a121_r2 : List AOper := [⟨some 8, .fa 0 (.t 1), none⟩,
  ⟨some 9, .ld 1 false (.t 8), none⟩,
  ⟨some 10, .len false (.t 9), none⟩,
  ⟨some 4, .mv (.t 10), none⟩]
def a121_r3 : List AOper := [⟨some 5, .mv (.c (.i .i64 0)), none⟩]
def a121_r4 : List AOper := [⟨some 11, .mv (.t 5), none⟩,
  ⟨some 12, .mv (.t 4), none⟩,
  ⟨some 13, .bin .lss (.t 11) (.t 12), none⟩]
def a121_r5 : List AOper := [⟨some 6, .mv (.c (.i .i64 2)), none⟩]
def a121_r6 : List AOper := [⟨some 14, .mv (.t 4), none⟩,
  ⟨some 15, .mv (.t 5), none⟩,
  ⟨some 16, .bin .sub (.t 14) (.t 15), none⟩,
  ⟨some 17, .bin .eql (.t 16) (.c (.i .i64 3)), none⟩]
def a121_r7 : List AOper := [⟨some 6, .mv (.c (.i .i64 3)), none⟩]
def a121_r8 : List AOper := [⟨some 18, .mv (.t 5), none⟩,
  ⟨some 19, .bin .gtr (.t 18) (.c (.i .i64 0)), none⟩]
def a121_r9 : List AOper := [⟨some 20, .fa 1 (.t 3), none⟩,
  ⟨some 21, .ld 1 false (.t 20), none⟩,
  ⟨some 22, .fa 1 (.t 1), none⟩,
  ⟨some 23, .ld 1 false (.t 22), none⟩,
  ⟨some 24, .mv (.t 5), none⟩,
  ⟨some 25, .bin .sub (.t 24) (.c (.i .i64 1)), none⟩,
  ⟨some 26, .ia 1 (.t 23) (.t 25), none⟩,
  ⟨some 27, .ld 1 false (.t 26), none⟩,
  ⟨some 28, .rowOf 1 [.i .i64 0] 1 [(0, .t 27)], none⟩,
  ⟨some 29, .ap 1 8 (.t 21) (.t 28), none⟩,
  ⟨some 30, .fa 1 (.t 3), none⟩,
  ⟨none, .st 1 (.t 30) (.t 29), none⟩]
def a121_r10 : List AOper := [⟨some 31, .fa 0 (.t 3), none⟩,
  ⟨some 32, .ld 1 false (.t 31), none⟩,
  ⟨some 33, .rowOf 5 [.b false, .emp, .emp, .emp, .emp] 0 [], none⟩,
  ⟨some 34, .fa 0 (.t 1), none⟩,
  ⟨some 35, .ld 1 false (.t 34), none⟩,
  ⟨some 36, .mv (.t 5), none⟩,
  ⟨some 37, .mv (.t 5), none⟩,
  ⟨some 38, .mv (.t 6), none⟩,
  ⟨some 39, .bin .add (.t 37) (.t 38), none⟩,
  ⟨some 40, .sl 5 (.t 35) (some (.t 36)) (some (.t 39)) none, none⟩,
  ⟨some 41, .ap 5 104 (.t 33) (.t 40), none⟩,
  ⟨some 42, .rowOf 1 [.i .i64 0] 0 [], none⟩,
  ⟨some 43, .fa 1 (.t 1), none⟩,
  ⟨some 44, .ld 1 false (.t 43), none⟩,
  ⟨some 45, .mv (.t 5), none⟩,
  ⟨some 46, .mv (.t 5), none⟩,
  ⟨some 47, .mv (.t 6), none⟩,
  ⟨some 48, .bin .add (.t 46) (.t 47), none⟩,
  ⟨some 49, .bin .sub (.t 48) (.c (.i .i64 1)), none⟩,
  ⟨some 50, .sl 1 (.t 44) (some (.t 45)) (some (.t 49)) none, none⟩,
  ⟨some 51, .ap 1 8 (.t 42) (.t 50), none⟩,
  ⟨some 52, .build [.b false, .emp, .emp, .emp, .emp] [(3, 1, .t 41), (2, 1, .t 51)], none⟩,
  ⟨some 53, .rowOf 5 [.b false, .emp, .emp, .emp, .emp] 1 [(0, .t 52)], none⟩,
  ⟨some 54, .ap 5 104 (.t 32) (.t 53), none⟩,
  ⟨some 55, .fa 0 (.t 3), none⟩,
  ⟨none, .st 1 (.t 55) (.t 54), none⟩]
def a121_r11 : List AOper := [⟨some 56, .mv (.t 5), none⟩,
  ⟨some 57, .mv (.t 6), none⟩,
  ⟨some 58, .bin .add (.t 56) (.t 57), none⟩,
  ⟨some 5, .mv (.t 58), none⟩]
def a121_l1 : ACode := .seq (.seq (.reg a121_r4 false []) (.cond (.t 13) (.skip) (.exit 0))) (.block 1 (.seq (.reg a121_r5 false []) (.seq (.seq (.reg a121_r6 false []) (.cond (.t 17) (.reg a121_r7 false []) (.skip))) (.seq (.seq (.reg a121_r8 false []) (.cond (.t 19) (.reg a121_r9 true [(1, 8)]) (.skip))) (.seq (.reg a121_r10 true [(1, 2), (2, 4), (2, 9), (1, 10), (1, 11), (2, 11), (4, 11), (9, 11), (10, 11), (2, 13), (10, 13), (11, 13), (2, 19), (10, 19), (11, 19), (1, 20), (1, 22)]) (.reg a121_r11 false []))))))
def a121_r12 : List AOper := [⟨some 59, .ld 2 true (.t 3), none⟩,
  ⟨none, .st 2 (.t 2) (.t 59), none⟩]
def a121 : AFn := ⟨[false], .seq (.reg a121_r0 false []) (.seq (.reg a121_r1 false []) (.seq (.reg a121_r2 false []) (.seq (.seq (.reg a121_r3 false []) (.block 0 (.loop [] a121_l1))) (.seq (.reg a121_r12 false []) (.ret))))), [.cell 2 2 true], []⟩
theorem reads121 : readFn Tryz.prog Tryz.f121 [false] [] [[]] = some a121 := by kernel_rfl
-- spec.l4Leaf
def a122_r0 : List AOper := [⟨some 2, .new [.emp, .emp], none⟩]
def a122_r1 : List AOper := [⟨some 7, .mv (.t 0), none⟩,
  ⟨some 8, .len false (.t 7), none⟩,
  ⟨some 3, .mv (.t 8), none⟩]
def a122_r2 : List AOper := [⟨some 9, .mv (.t 3), none⟩,
  ⟨some 10, .bin .leq (.t 9) (.c (.i .i64 4)), none⟩]
def a122_r3 : List AOper := [⟨some 11, .mv (.t 0), none⟩,
  ⟨some 12, .build [.b false, .emp, .emp, .emp, .emp] [(0, 1, .c (.b true)), (1, 1, .t 11)], none⟩,
  ⟨some 13, .rowOf 5 [.b false, .emp, .emp, .emp, .emp] 1 [(0, .t 12)], none⟩,
  ⟨some 14, .build [.emp, .emp] [(0, 1, .t 13)], none⟩,
  ⟨none, .st 2 (.t 2) (.t 14), none⟩]
def a122_r4 : List AOper := [⟨some 15, .build [.emp, .emp] [], none⟩,
  ⟨some 4, .new [.emp, .emp], none⟩,
  ⟨none, .st 2 (.t 4) (.t 15), none⟩]
def a122_r5 : List AOper := [⟨some 5, .mv (.c (.i .i64 0)), none⟩]
def a122_r6 : List AOper := [⟨some 16, .mv (.t 5), none⟩,
  ⟨some 17, .mv (.t 3), none⟩,
  ⟨some 18, .bin .lss (.t 16) (.t 17), none⟩]
def a122_r7 : List AOper := [⟨some 6, .mv (.c (.i .i64 2)), none⟩]
def a122_r8 : List AOper := [⟨some 19, .mv (.t 3), none⟩,
  ⟨some 20, .mv (.t 5), none⟩,
  ⟨some 21, .bin .sub (.t 19) (.t 20), none⟩,
  ⟨some 22, .bin .eql (.t 21) (.c (.i .i64 3)), none⟩]
def a122_r9 : List AOper := [⟨some 6, .mv (.c (.i .i64 3)), none⟩]
def a122_r10 : List AOper := [⟨some 23, .mv (.t 5), none⟩,
  ⟨some 24, .bin .gtr (.t 23) (.c (.i .i64 0)), none⟩]
def a122_r11 : List AOper := [⟨some 25, .fa 1 (.t 4), none⟩,
  ⟨some 26, .ld 1 false (.t 25), none⟩,
  ⟨some 27, .mv (.t 0), none⟩,
  ⟨some 28, .mv (.t 5), none⟩,
  ⟨some 29, .ia 2 (.t 27) (.t 28), none⟩,
  ⟨some 30, .fa 0 (.t 29), none⟩,
  ⟨some 31, .ld 1 false (.t 30), none⟩,
  ⟨some 32, .rowOf 1 [.i .i64 0] 1 [(0, .t 31)], none⟩,
  ⟨some 33, .ap 1 8 (.t 26) (.t 32), none⟩,
  ⟨some 34, .fa 1 (.t 4), none⟩,
  ⟨none, .st 1 (.t 34) (.t 33), none⟩]
def a122_r12 : List AOper := [⟨some 35, .fa 0 (.t 4), none⟩,
  ⟨some 36, .ld 1 false (.t 35), none⟩,
  ⟨some 37, .rowOf 2 [.i .i64 0, .i .i64 0] 0 [], none⟩,
  ⟨some 38, .mv (.t 0), none⟩,
  ⟨some 39, .mv (.t 5), none⟩,
  ⟨some 40, .mv (.t 5), none⟩,
  ⟨some 41, .mv (.t 6), none⟩,
  ⟨some 42, .bin .add (.t 40) (.t 41), none⟩,
  ⟨some 43, .sl 2 (.t 38) (some (.t 39)) (some (.t 42)) none, none⟩,
  ⟨some 44, .ap 2 16 (.t 37) (.t 43), none⟩,
  ⟨some 45, .build [.b false, .emp, .emp, .emp, .emp] [(0, 1, .c (.b true)), (1, 1, .t 44)], none⟩,
  ⟨some 46, .rowOf 5 [.b false, .emp, .emp, .emp, .emp] 1 [(0, .t 45)], none⟩,
  ⟨some 47, .ap 5 104 (.t 36) (.t 46), none⟩,
  ⟨some 48, .fa 0 (.t 4), none⟩,
  ⟨none, .st 1 (.t 48) (.t 47), none⟩]
def a122_r13 : List AOper := [⟨some 49, .mv (.t 5), none⟩,
  ⟨some 50, .mv (.t 6), none⟩,
  ⟨some 51, .bin .add (.t 49) (.t 50), none⟩,
  ⟨some 5, .mv (.t 51), none⟩]
def a122_l1 : ACode := .seq (.seq (.reg a122_r6 false []) (.cond (.t 18) (.skip) (.exit 0))) (.block 1 (.seq (.reg a122_r7 false []) (.seq (.seq (.reg a122_r8 false []) (.cond (.t 22) (.reg a122_r9 false []) (.skip))) (.seq (.seq (.reg a122_r10 false []) (.cond (.t 24) (.reg a122_r11 true [(1, 7)]) (.skip))) (.seq (.reg a122_r12 true [(1, 2), (2, 8), (1, 9), (1, 11)]) (.reg a122_r13 false []))))))
def a122_r14 : List AOper := [⟨some 52, .ld 2 true (.t 4), none⟩,
  ⟨none, .st 2 (.t 2) (.t 52), none⟩]
def a122 : AFn := ⟨[false], .seq (.reg a122_r0 false []) (.seq (.reg a122_r1 false []) (.seq (.seq (.reg a122_r2 false []) (.cond (.t 10) (.seq (.reg a122_r3 false []) (.ret)) (.skip))) (.seq (.reg a122_r4 false []) (.seq (.seq (.reg a122_r5 false []) (.block 0 (.loop [] a122_l1))) (.seq (.reg a122_r14 false []) (.ret)))))), [.cell 2 2 true], []⟩
theorem reads122 : readFn Tryz.prog Tryz.f122 [false] [] [[]] = some a122 := by kernel_rfl
-- spec.MapAll
def a123_r0 : List AOper := [⟨some 4, .mv (.c (.emp)), none⟩]
def a123_r1 : List AOper := [⟨some 7, .rowOf 2 [.i .i64 0, .i .i64 0] 0 [], none⟩,
  ⟨some 8, .mv (.t 0), none⟩,
  ⟨some 9, .ap 2 16 (.t 7) (.t 8), none⟩,
  ⟨some 5, .mv (.t 9), none⟩]
def a123_r2 : List AOper := [⟨some 6, .mv (.c (.i .i64 0)), none⟩]
def a123_r3 : List AOper := [⟨some 10, .mv (.t 6), none⟩,
  ⟨some 11, .mv (.t 1), none⟩,
  ⟨some 12, .len false (.t 11), none⟩,
  ⟨some 13, .bin .lss (.t 10) (.t 12), none⟩]
def a123_r5 : List AOper := [⟨some 16, .mv (.t 5), none⟩,
  ⟨some 17, .mv (.t 1), none⟩,
  ⟨some 18, .mv (.t 6), none⟩,
  ⟨some 19, .ia 3 (.t 17) (.t 18), none⟩,
  ⟨some 20, .ld 3 true (.t 19), none⟩,
  ⟨some 21, .call (.c (.clo 160 [])) [.t 16, .t 20], none⟩,
  ⟨some 5, .mv (.t 21), none⟩]
def a123_r4 : List AOper := [⟨some 14, .mv (.t 6), none⟩,
  ⟨some 15, .bin .add (.t 14) (.c (.i .i64 1)), none⟩,
  ⟨some 6, .mv (.t 15), none⟩]
def a123_l1 : ACode := .seq (.seq (.reg a123_r3 false []) (.cond (.t 13) (.skip) (.exit 0))) (.seq (.block 1 (.reg a123_r5 false [])) (.reg a123_r4 false []))
def a123_r6 : List AOper := [⟨some 22, .mv (.t 5), none⟩,
  ⟨some 4, .mv (.t 22), none⟩]
def a123 : AFn := ⟨[false, false], .seq (.reg a123_r0 false []) (.seq (.reg a123_r1 false []) (.seq (.seq (.reg a123_r2 false []) (.block 0 (.loop [] a123_l1))) (.seq (.reg a123_r6 false []) (.ret)))), [.t 4], []⟩
theorem reads123 : readFn Tryz.prog Tryz.f123 [false, false] [] [[]] = some a123 := by kernel_rfl
-- spec.Shrink
def a124_r0 : List AOper := [⟨some 2, .mv (.c (.emp)), none⟩]
def a124_r1 : List AOper := [⟨some 7, .rowOf 3 [.i .i64 0, .i .i64 0, .i .i64 0] 0 [], none⟩,
  ⟨some 3, .mv (.t 7), none⟩]
def a124_r2 : List AOper := [⟨some 4, .mv (.c (.i .i64 0)), none⟩]
def a124_r3 : List AOper := [⟨some 8, .mv (.t 4), none⟩,
  ⟨some 9, .mv (.t 0), none⟩,
  ⟨some 10, .len false (.t 9), none⟩,
  ⟨some 11, .bin .lss (.t 8) (.t 10), none⟩]
def a124_r5 : List AOper := [⟨some 14, .mv (.t 0), none⟩,
  ⟨some 15, .mv (.t 4), none⟩,
  ⟨some 16, .ia 3 (.t 14) (.t 15), none⟩,
  ⟨some 17, .ld 3 true (.t 16), none⟩,
  ⟨some 5, .new [.i .i64 0, .i .i64 0, .i .i64 0], none⟩,
  ⟨none, .st 3 (.t 5) (.t 17), none⟩]
def a124_r6 : List AOper := [⟨some 18, .ld 3 true (.t 5), none⟩,
  ⟨some 19, .call (.c (.clo 57 [])) [.t 18], none⟩,
  ⟨some 20, .un .not (.t 19), none⟩,
  ⟨some 21, .mv (.t 20), none⟩,
  ⟨some 22, .fa 0 (.t 5), some (21, false)⟩,
  ⟨some 23, .ld 1 false (.t 22), some (21, false)⟩,
  ⟨some 24, .bin .eql (.t 23) (.c (.i .i64 4)), some (21, false)⟩,
  ⟨some 25, .pick (.t 21) (.c (.b true)) (.t 24), none⟩,
  ⟨some 26, .mv (.t 25), none⟩,
  ⟨some 27, .mv (.t 0), some (26, false)⟩,
  ⟨some 28, .mv (.t 4), some (26, false)⟩,
  ⟨some 29, .call (.c (.clo 161 [])) [.t 27, .t 28], some (26, false)⟩,
  ⟨some 30, .pick (.t 26) (.c (.b true)) (.t 29), none⟩]
def a124_r7 : List AOper := [⟨some 31, .mv (.t 3), none⟩,
  ⟨some 32, .fa 1 (.t 5), none⟩,
  ⟨some 33, .ld 1 false (.t 32), none⟩,
  ⟨some 34, .call (.c (.clo 162 [])) [.t 31, .t 33], none⟩,
  ⟨some 6, .mv (.t 34), none⟩]
def a124_r8 : List AOper := [⟨some 35, .mv (.t 6), none⟩,
  ⟨some 36, .bin .geq (.t 35) (.c (.i .i64 0)), none⟩,
  ⟨some 37, .mv (.t 36), none⟩,
  ⟨some 38, .mv (.t 3), some (37, true)⟩,
  ⟨some 39, .mv (.t 6), some (37, true)⟩,
  ⟨some 40, .ia 3 (.t 38) (.t 39), some (37, true)⟩,
  ⟨some 41, .fa 0 (.t 40), some (37, true)⟩,
  ⟨some 42, .ld 1 false (.t 41), some (37, true)⟩,
  ⟨some 43, .bin .eql (.t 42) (.c (.i .i64 1)), some (37, true)⟩,
  ⟨some 44, .pick (.t 37) (.t 43) (.c (.b false)), none⟩,
  ⟨some 45, .mv (.t 44), none⟩,
  ⟨some 46, .fa 0 (.t 5), some (45, true)⟩,
  ⟨some 47, .ld 1 false (.t 46), some (45, true)⟩,
  ⟨some 48, .bin .eql (.t 47) (.c (.i .i64 3)), some (45, true)⟩,
  ⟨some 49, .pick (.t 45) (.t 48) (.c (.b false)), none⟩]
def a124_r9 : List AOper := [⟨some 50, .mv (.t 3), none⟩,
  ⟨some 51, .mv (.t 6), none⟩,
  ⟨some 52, .mv (.t 3), none⟩,
  ⟨some 53, .mv (.t 6), none⟩,
  ⟨some 54, .ia 3 (.t 52) (.t 53), none⟩,
  ⟨some 55, .fa 2 (.t 54), none⟩,
  ⟨some 56, .ld 1 false (.t 55), none⟩,
  ⟨some 57, .fa 2 (.t 5), none⟩,
  ⟨some 58, .ld 1 false (.t 57), none⟩,
  ⟨some 59, .bin .add (.t 56) (.t 58), none⟩,
  ⟨some 60, .call (.c (.clo 163 [])) [.t 59], none⟩,
  ⟨some 61, .ia 3 (.t 50) (.t 51), none⟩,
  ⟨some 62, .fa 2 (.t 61), none⟩,
  ⟨none, .st 1 (.t 62) (.t 60), none⟩]
def a124_r10 : List AOper := [⟨some 63, .mv (.t 3), none⟩,
  ⟨some 64, .ld 3 true (.t 5), none⟩,
  ⟨some 65, .rowOf 3 [.i .i64 0, .i .i64 0, .i .i64 0] 1 [(0, .t 64)], none⟩,
  ⟨some 66, .ap 3 24 (.t 63) (.t 65), none⟩,
  ⟨some 3, .mv (.t 66), none⟩]
def a124_r4 : List AOper := [⟨some 12, .mv (.t 4), none⟩,
  ⟨some 13, .bin .add (.t 12) (.c (.i .i64 1)), none⟩,
  ⟨some 4, .mv (.t 13), none⟩]
def a124_l1 : ACode := .seq (.seq (.reg a124_r3 false []) (.cond (.t 11) (.skip) (.exit 0))) (.seq (.block 1 (.seq (.reg a124_r5 false []) (.seq (.seq (.reg a124_r6 false []) (.cond (.t 30) (.exit 1) (.skip))) (.seq (.reg a124_r7 false []) (.seq (.seq (.reg a124_r8 false []) (.cond (.t 49) (.seq (.reg a124_r9 true []) (.exit 1)) (.skip))) (.reg a124_r10 false [])))))) (.reg a124_r4 false []))
def a124_r11 : List AOper := [⟨some 67, .mv (.t 3), none⟩,
  ⟨some 2, .mv (.t 67), none⟩]
def a124 : AFn := ⟨[false], .seq (.reg a124_r0 false []) (.seq (.reg a124_r1 false []) (.seq (.seq (.reg a124_r2 false []) (.block 0 (.loop [] a124_l1))) (.seq (.reg a124_r11 false []) (.ret)))), [.t 2], []⟩
theorem reads124 : readFn Tryz.prog Tryz.f124 [false] [] [[]] = some a124 := by kernel_rfl
-- spec.l4Most
def a125_r0 : List AOper := [⟨some 2, .box (.t 0), none⟩,
  ⟨some 4, .mv (.c (.i .i64 0)), none⟩]
def a125_r1 : List AOper := [⟨some 5, .mv (.c (.i .i64 0)), none⟩,
  ⟨some 6, .mv (.c (.i .i64 (-1))), none⟩]
def a125_r2 : List AOper := [⟨some 7, .mv (.c (.i .i64 0)), none⟩]
def a125_r3 : List AOper := [⟨some 10, .mv (.t 7), none⟩,
  ⟨some 11, .fa 0 (.t 2), none⟩,
  ⟨some 12, .ld 1 false (.t 11), none⟩,
  ⟨some 13, .len false (.t 12), none⟩,
  ⟨some 14, .bin .lss (.t 10) (.t 13), none⟩]
def a125_r5 : List AOper := [⟨some 18, .ld 2 true (.t 2), none⟩,
  ⟨some 19, .mv (.t 1), none⟩,
  ⟨some 20, .mv (.t 7), none⟩,
  ⟨some 21, .call (.c (.clo 126 [])) [.t 18, .t 19, .t 20], none⟩,
  ⟨some 17, .mv (.t 21), none⟩,
  ⟨some 22, .ex (.t 17) 0, none⟩,
  ⟨some 23, .ex (.t 17) 1, none⟩,
  ⟨some 8, .mv (.t 22), none⟩,
  ⟨some 9, .mv (.t 23), none⟩]
def a125_r6 : List AOper := [⟨some 24, .mv (.t 8), none⟩,
  ⟨some 25, .len false (.t 24), none⟩,
  ⟨some 26, .mv (.t 6), none⟩,
  ⟨some 27, .bin .gtr (.t 25) (.t 26), none⟩]
def a125_r7 : List AOper := [⟨some 28, .mv (.t 7), none⟩,
  ⟨some 5, .mv (.t 28), none⟩]
def a125_r8 : List AOper := [⟨some 29, .mv (.t 8), none⟩,
  ⟨some 30, .len false (.t 29), none⟩,
  ⟨some 6, .mv (.t 30), none⟩]
def a125_r4 : List AOper := [⟨some 15, .mv (.t 7), none⟩,
  ⟨some 16, .bin .add (.t 15) (.c (.i .i64 1)), none⟩,
  ⟨some 7, .mv (.t 16), none⟩]
def a125_l1 : ACode := .seq (.seq (.reg a125_r3 false []) (.cond (.t 14) (.skip) (.exit 0))) (.seq (.block 1 (.seq (.reg a125_r5 false []) (.seq (.reg a125_r6 false []) (.cond (.t 27) (.seq (.reg a125_r7 false []) (.reg a125_r8 false [])) (.skip))))) (.reg a125_r4 false []))
def a125_r9 : List AOper := [⟨some 31, .mv (.t 5), none⟩,
  ⟨some 4, .mv (.t 31), none⟩]
def a125 : AFn := ⟨[false, false], .seq (.reg a125_r0 false []) (.seq (.reg a125_r1 false []) (.seq (.seq (.reg a125_r2 false []) (.block 0 (.loop [] a125_l1))) (.seq (.reg a125_r9 false []) (.ret)))), [.t 4], []⟩
theorem reads125 : readFn Tryz.prog Tryz.f125 [false, false] [] [[]] = some a125 := by kernel_rfl
-- spec.l4Split
def a126_r0 : List AOper := [⟨some 3, .box (.t 0), none⟩,
  ⟨some 6, .mv (.c (.emp)), none⟩,
  ⟨some 7, .mv (.c (.emp)), none⟩]
def a126_r1 : List AOper := [⟨some 11, .rowOf 3 [.i .i64 0, .i .i64 0, .i .i64 0] 0 [], none⟩,
  ⟨some 12, .rowOf 3 [.i .i64 0, .i .i64 0, .i .i64 0] 0 [], none⟩,
  ⟨some 8, .mv (.t 11), none⟩,
  ⟨some 9, .mv (.t 12), none⟩]
def a126_r2 : List AOper := [⟨some 10, .mv (.c (.i .i64 0)), none⟩]
def a126_r3 : List AOper := [⟨some 13, .mv (.t 10), none⟩,
  ⟨some 14, .mv (.t 1), none⟩,
  ⟨some 15, .len false (.t 14), none⟩,
  ⟨some 16, .bin .lss (.t 13) (.t 15), none⟩]
def a126_r5 : List AOper := [⟨some 19, .ld 2 true (.t 3), none⟩,
  ⟨some 20, .mv (.t 1), none⟩,
  ⟨some 21, .mv (.t 10), none⟩,
  ⟨some 22, .ia 3 (.t 20) (.t 21), none⟩,
  ⟨some 23, .fa 1 (.t 22), none⟩,
  ⟨some 24, .ld 1 false (.t 23), none⟩,
  ⟨some 25, .call (.c (.clo 164 [])) [.t 19, .t 24], none⟩,
  ⟨some 26, .mv (.t 2), none⟩,
  ⟨some 27, .bin .eql (.t 25) (.t 26), none⟩]
def a126_r6 : List AOper := [⟨some 28, .mv (.t 8), none⟩,
  ⟨some 29, .mv (.t 1), none⟩,
  ⟨some 30, .mv (.t 10), none⟩,
  ⟨some 31, .ia 3 (.t 29) (.t 30), none⟩,
  ⟨some 32, .ld 3 true (.t 31), none⟩,
  ⟨some 33, .rowOf 3 [.i .i64 0, .i .i64 0, .i .i64 0] 1 [(0, .t 32)], none⟩,
  ⟨some 34, .ap 3 24 (.t 28) (.t 33), none⟩,
  ⟨some 8, .mv (.t 34), none⟩]
def a126_r7 : List AOper := [⟨some 35, .mv (.t 9), none⟩,
  ⟨some 36, .mv (.t 1), none⟩,
  ⟨some 37, .mv (.t 10), none⟩,
  ⟨some 38, .ia 3 (.t 36) (.t 37), none⟩,
  ⟨some 39, .ld 3 true (.t 38), none⟩,
  ⟨some 40, .rowOf 3 [.i .i64 0, .i .i64 0, .i .i64 0] 1 [(0, .t 39)], none⟩,
  ⟨some 41, .ap 3 24 (.t 35) (.t 40), none⟩,
  ⟨some 9, .mv (.t 41), none⟩]
def a126_r4 : List AOper := [⟨some 17, .mv (.t 10), none⟩,
  ⟨some 18, .bin .add (.t 17) (.c (.i .i64 1)), none⟩,
  ⟨some 10, .mv (.t 18), none⟩]
def a126_l1 : ACode := .seq (.seq (.reg a126_r3 false []) (.cond (.t 16) (.skip) (.exit 0))) (.seq (.block 1 (.seq (.reg a126_r5 true []) (.cond (.t 27) (.reg a126_r6 false []) (.reg a126_r7 false [])))) (.reg a126_r4 false []))
def a126_r8 : List AOper := [⟨some 42, .mv (.t 8), none⟩,
  ⟨some 43, .mv (.t 9), none⟩,
  ⟨some 6, .mv (.t 42), none⟩,
  ⟨some 7, .mv (.t 43), none⟩]
def a126 : AFn := ⟨[false, false, false], .seq (.reg a126_r0 false []) (.seq (.reg a126_r1 false []) (.seq (.seq (.reg a126_r2 false []) (.block 0 (.loop [] a126_l1))) (.seq (.reg a126_r8 false []) (.ret)))), [.t 6, .t 7], []⟩
theorem reads126 : readFn Tryz.prog Tryz.f126 [false, false, false] [] [[]] = some a126 := by kernel_rfl
-- spec.l4Put
def a127_r0 : List AOper := [⟨some 3, .box (.t 0), none⟩,
  ⟨some 5, .box (.t 2), none⟩,
  ⟨some 6, .new [.emp, .emp], none⟩]
def a127_r1 : List AOper := [⟨some 8, .rowOf 5 [.b false, .emp, .emp, .emp, .emp] 0 [], none⟩,
  ⟨some 9, .fa 0 (.t 3), none⟩,
  ⟨some 10, .ld 1 false (.t 9), none⟩,
  ⟨some 11, .mv (.t 1), none⟩,
  ⟨some 12, .sl 5 (.t 10) none (some (.t 11)) none, none⟩,
  ⟨some 13, .ap 5 104 (.t 8) (.t 12), none⟩,
  ⟨some 14, .rowOf 1 [.i .i64 0] 0 [], none⟩,
  ⟨some 15, .fa 1 (.t 3), none⟩,
  ⟨some 16, .ld 1 false (.t 15), none⟩,
  ⟨some 17, .mv (.t 1), none⟩,
  ⟨some 18, .sl 1 (.t 16) none (some (.t 17)) none, none⟩,
  ⟨some 19, .ap 1 8 (.t 14) (.t 18), none⟩,
  ⟨some 20, .build [.emp, .emp] [(0, 1, .t 13), (1, 1, .t 19)], none⟩,
  ⟨some 7, .new [.emp, .emp], none⟩,
  ⟨none, .st 2 (.t 7) (.t 20), none⟩]
def a127_r2 : List AOper := [⟨some 21, .fa 0 (.t 7), none⟩,
  ⟨some 22, .ld 1 false (.t 21), none⟩,
  ⟨some 23, .fa 0 (.t 5), none⟩,
  ⟨some 24, .ld 1 false (.t 23), none⟩,
  ⟨some 25, .ap 5 104 (.t 22) (.t 24), none⟩,
  ⟨some 26, .fa 0 (.t 3), none⟩,
  ⟨some 27, .ld 1 false (.t 26), none⟩,
  ⟨some 28, .mv (.t 1), none⟩,
  ⟨some 29, .bin .add (.t 28) (.c (.i .i64 1)), none⟩,
  ⟨some 30, .sl 5 (.t 27) (some (.t 29)) none none, none⟩,
  ⟨some 31, .ap 5 104 (.t 25) (.t 30), none⟩,
  ⟨some 32, .fa 0 (.t 7), none⟩,
  ⟨none, .st 1 (.t 32) (.t 31), none⟩]
def a127_r3 : List AOper := [⟨some 33, .fa 1 (.t 7), none⟩,
  ⟨some 34, .ld 1 false (.t 33), none⟩,
  ⟨some 35, .fa 1 (.t 5), none⟩,
  ⟨some 36, .ld 1 false (.t 35), none⟩,
  ⟨some 37, .ap 1 8 (.t 34) (.t 36), none⟩,
  ⟨some 38, .fa 1 (.t 3), none⟩,
  ⟨some 39, .ld 1 false (.t 38), none⟩,
  ⟨some 40, .mv (.t 1), none⟩,
  ⟨some 41, .sl 1 (.t 39) (some (.t 40)) none none, none⟩,
  ⟨some 42, .ap 1 8 (.t 37) (.t 41), none⟩,
  ⟨some 43, .fa 1 (.t 7), none⟩,
  ⟨none, .st 1 (.t 43) (.t 42), none⟩]
def a127_r4 : List AOper := [⟨some 44, .ld 2 true (.t 7), none⟩,
  ⟨none, .st 2 (.t 6) (.t 44), none⟩]
def a127 : AFn := ⟨[false, false, false], .seq (.reg a127_r0 false []) (.seq (.reg a127_r1 true [(0, 2), (0, 4), (0, 6), (2, 6), (4, 6), (5, 6), (0, 8), (5, 8), (6, 8), (0, 10), (5, 10), (6, 10), (0, 13), (2, 13), (4, 13), (5, 13), (6, 13), (8, 13), (10, 13), (11, 13)]) (.seq (.reg a127_r2 true [(4, 6), (4, 9)]) (.seq (.reg a127_r3 true [(4, 6), (4, 8)]) (.seq (.reg a127_r4 false []) (.ret))))), [.cell 6 2 true], []⟩
theorem reads127 : readFn Tryz.prog Tryz.f127 [false, false, false] [] [] = some a127 := by kernel_rfl
-- spec.l4Down
def a128_r0 : List AOper := [⟨some 2, .box (.t 0), none⟩,
  ⟨some 4, .new [.emp, .emp], none⟩]
def a128_r1 : List AOper := [⟨some 10, .build [.emp, .emp] [], none⟩,
  ⟨some 5, .new [.emp, .emp], none⟩,
  ⟨none, .st 2 (.t 5) (.t 10), none⟩]
def a128_r2 : List AOper := [⟨some 6, .mv (.c (.i .i64 0)), none⟩]
def a128_r3 : List AOper := [⟨some 11, .mv (.t 6), none⟩,
  ⟨some 12, .fa 0 (.t 2), none⟩,
  ⟨some 13, .ld 1 false (.t 12), none⟩,
  ⟨some 14, .len false (.t 13), none⟩,
  ⟨some 15, .bin .lss (.t 11) (.t 14), none⟩]
def a128_r5 : List AOper := [⟨some 19, .ld 2 true (.t 2), none⟩,
  ⟨some 20, .mv (.t 1), none⟩,
  ⟨some 21, .mv (.t 6), none⟩,
  ⟨some 22, .call (.c (.clo 126 [])) [.t 19, .t 20, .t 21], none⟩,
  ⟨some 18, .mv (.t 22), none⟩,
  ⟨some 23, .ex (.t 18) 0, none⟩,
  ⟨some 24, .ex (.t 18) 1, none⟩,
  ⟨some 7, .mv (.t 23), none⟩,
  ⟨some 8, .mv (.t 24), none⟩]
def a128_r6 : List AOper := [⟨some 25, .fa 0 (.t 2), none⟩,
  ⟨some 26, .ld 1 false (.t 25), none⟩,
  ⟨some 27, .mv (.t 6), none⟩,
  ⟨some 28, .ia 5 (.t 26) (.t 27), none⟩,
  ⟨some 29, .ld 5 true (.t 28), none⟩,
  ⟨some 30, .rowOf 5 [.b false, .emp, .emp, .emp, .emp] 1 [(0, .t 29)], none⟩,
  ⟨some 31, .build [.emp, .emp] [(0, 1, .t 30)], none⟩,
  ⟨some 9, .new [.emp, .emp], none⟩,
  ⟨none, .st 2 (.t 9) (.t 31), none⟩]
def a128_r7 : List AOper := [⟨some 32, .mv (.t 7), none⟩,
  ⟨some 33, .len false (.t 32), none⟩,
  ⟨some 34, .bin .gtr (.t 33) (.c (.i .i64 0)), none⟩]
def a128_r8 : List AOper := [⟨some 35, .fa 0 (.t 2), none⟩,
  ⟨some 36, .ld 1 false (.t 35), none⟩,
  ⟨some 37, .mv (.t 6), none⟩,
  ⟨some 38, .ia 5 (.t 36) (.t 37), none⟩,
  ⟨some 39, .ld 5 true (.t 38), none⟩,
  ⟨some 40, .mv (.t 7), none⟩,
  ⟨some 41, .call (.c (.clo 60 [])) [.t 39, .t 40], none⟩,
  ⟨none, .st 2 (.t 9) (.t 41), none⟩]
def a128_r9 : List AOper := [⟨some 42, .mv (.t 6), none⟩,
  ⟨some 43, .bin .gtr (.t 42) (.c (.i .i64 0)), none⟩]
def a128_r10 : List AOper := [⟨some 44, .fa 1 (.t 5), none⟩,
  ⟨some 45, .ld 1 false (.t 44), none⟩,
  ⟨some 46, .fa 1 (.t 2), none⟩,
  ⟨some 47, .ld 1 false (.t 46), none⟩,
  ⟨some 48, .mv (.t 6), none⟩,
  ⟨some 49, .bin .sub (.t 48) (.c (.i .i64 1)), none⟩,
  ⟨some 50, .ia 1 (.t 47) (.t 49), none⟩,
  ⟨some 51, .ld 1 false (.t 50), none⟩,
  ⟨some 52, .rowOf 1 [.i .i64 0] 1 [(0, .t 51)], none⟩,
  ⟨some 53, .ap 1 8 (.t 45) (.t 52), none⟩,
  ⟨some 54, .fa 1 (.t 5), none⟩,
  ⟨none, .st 1 (.t 54) (.t 53), none⟩]
def a128_r11 : List AOper := [⟨some 55, .fa 0 (.t 5), none⟩,
  ⟨some 56, .ld 1 false (.t 55), none⟩,
  ⟨some 57, .fa 0 (.t 9), none⟩,
  ⟨some 58, .ld 1 false (.t 57), none⟩,
  ⟨some 59, .ap 5 104 (.t 56) (.t 58), none⟩,
  ⟨some 60, .fa 0 (.t 5), none⟩,
  ⟨none, .st 1 (.t 60) (.t 59), none⟩]
def a128_r12 : List AOper := [⟨some 61, .fa 1 (.t 5), none⟩,
  ⟨some 62, .ld 1 false (.t 61), none⟩,
  ⟨some 63, .fa 1 (.t 9), none⟩,
  ⟨some 64, .ld 1 false (.t 63), none⟩,
  ⟨some 65, .ap 1 8 (.t 62) (.t 64), none⟩,
  ⟨some 66, .fa 1 (.t 5), none⟩,
  ⟨none, .st 1 (.t 66) (.t 65), none⟩]
def a128_r4 : List AOper := [⟨some 16, .mv (.t 6), none⟩,
  ⟨some 17, .bin .add (.t 16) (.c (.i .i64 1)), none⟩,
  ⟨some 6, .mv (.t 17), none⟩]
def a128_l1 : ACode := .seq (.seq (.reg a128_r3 false []) (.cond (.t 15) (.skip) (.exit 0))) (.seq (.block 1 (.seq (.reg a128_r5 false []) (.seq (.reg a128_r6 false []) (.seq (.seq (.reg a128_r7 false []) (.cond (.t 34) (.reg a128_r8 false []) (.skip))) (.seq (.seq (.reg a128_r9 false []) (.cond (.t 43) (.reg a128_r10 true [(1, 8)]) (.skip))) (.seq (.reg a128_r11 false []) (.reg a128_r12 false []))))))) (.reg a128_r4 false []))
def a128_r13 : List AOper := [⟨some 67, .ld 2 true (.t 5), none⟩,
  ⟨none, .st 2 (.t 4) (.t 67), none⟩]
def a128 : AFn := ⟨[false, false], .seq (.reg a128_r0 false []) (.seq (.reg a128_r1 false []) (.seq (.seq (.reg a128_r2 false []) (.block 0 (.loop [] a128_l1))) (.seq (.reg a128_r13 false []) (.ret)))), [.cell 4 2 true], []⟩
theorem reads128 : readFn Tryz.prog Tryz.f128 [false, false] [] [[]] = some a128 := by kernel_rfl
-- spec.l2DrawRight
def a129_r0 : List AOper := [⟨some 4, .new [.b false, .emp, .emp, .emp, .emp], none⟩]
def a129_r1 : List AOper := [⟨some 8, .call (.c (.clo 17 [])) [], none⟩,
  ⟨some 5, .new [.b false, .emp, .emp, .emp, .emp], none⟩,
  ⟨none, .st 5 (.t 5) (.t 8), none⟩]
def a129_r2 : List AOper := [⟨some 9, .mv (.t 0), none⟩,
  ⟨some 10, .mv (.t 1), none⟩,
  ⟨some 11, .call (.c (.clo 46 [])) [.t 10, .c (.i .i64 30), .c (.i .i64 90)], none⟩,
  ⟨some 12, .call (.c (.clo 90 [])) [.t 9, .t 11], none⟩,
  ⟨some 6, .mv (.t 12), none⟩]
def a129_r3 : List AOper := [⟨some 7, .mv (.c (.i .i64 0)), none⟩]
def a129_r4 : List AOper := [⟨some 13, .mv (.t 7), none⟩,
  ⟨some 14, .mv (.t 6), none⟩,
  ⟨some 15, .bin .lss (.t 13) (.t 14), none⟩]
def a129_r6 : List AOper := [⟨some 18, .ld 5 true (.t 5), none⟩,
  ⟨some 19, .mv (.t 0), none⟩,
  ⟨some 20, .call (.c (.clo 47 [])) [.t 19], none⟩,
  ⟨some 21, .call (.c (.clo 16 [])) [.t 18, .t 20], none⟩,
  ⟨none, .st 5 (.t 5) (.t 21), none⟩]
def a129_r5 : List AOper := [⟨some 16, .mv (.t 7), none⟩,
  ⟨some 17, .bin .add (.t 16) (.c (.i .i64 1)), none⟩,
  ⟨some 7, .mv (.t 17), none⟩]
def a129_l1 : ACode := .seq (.seq (.reg a129_r4 false []) (.cond (.t 15) (.skip) (.exit 0))) (.seq (.block 1 (.reg a129_r6 true [(0, 2)])) (.reg a129_r5 false []))
def a129_r7 : List AOper := [⟨some 22, .mv (.t 0), none⟩,
  ⟨some 23, .call (.c (.clo 69 [])) [.t 22, .c (.i .i64 8)], none⟩]
def a129_r8 : List AOper := [⟨some 24, .ld 5 true (.t 5), none⟩,
  ⟨some 25, .call (.c (.clo 23 [])) [.t 24], none⟩,
  ⟨none, .st 5 (.t 5) (.t 25), none⟩]
def a129_r9 : List AOper := [⟨some 26, .ld 5 true (.t 5), none⟩,
  ⟨none, .st 5 (.t 4) (.t 26), none⟩]
def a129 : AFn := ⟨[true, false], .seq (.reg a129_r0 false []) (.seq (.reg a129_r1 false []) (.seq (.reg a129_r2 false []) (.seq (.seq (.reg a129_r3 false []) (.block 0 (.loop [] a129_l1))) (.seq (.seq (.reg a129_r7 false []) (.cond (.t 23) (.reg a129_r8 false []) (.skip))) (.seq (.reg a129_r9 false []) (.ret)))))), [.cell 4 5 true], []⟩
theorem reads129 : readFn Tryz.prog Tryz.f129 [true, false] [] [[]] = some a129 := by kernel_rfl
-- spec.l2Depth
def a130_r0 : List AOper := [⟨some 4, .box (.t 0), none⟩,
  ⟨some 8, .mv (.c (.i .i64 0)), none⟩]
def a130_r1 : List AOper := [⟨some 16, .mv (.t 3), none⟩,
  ⟨some 17, .bin .eql (.t 16) (.c (.i .i64 0)), none⟩]
def a130_r2 : List AOper := [⟨some 8, .mv (.c (.i .i64 0)), none⟩]
def a130_r3 : List AOper := [⟨some 18, .fa 0 (.t 4), none⟩,
  ⟨some 19, .ld 1 false (.t 18), none⟩]
def a130_r4 : List AOper := [⟨some 20, .ld 5 true (.t 4), none⟩,
  ⟨some 21, .mv (.t 1), none⟩,
  ⟨some 22, .mv (.t 2), none⟩,
  ⟨some 23, .call (.c (.clo 165 [])) [.t 20, .t 21, .t 22], none⟩,
  ⟨some 8, .mv (.t 23), none⟩]
def a130_r5 : List AOper := [⟨some 24, .fa 3 (.t 4), none⟩,
  ⟨some 25, .ld 1 false (.t 24), none⟩,
  ⟨some 26, .len false (.t 25), none⟩,
  ⟨some 9, .mv (.t 26), none⟩]
def a130_r6 : List AOper := [⟨some 27, .fa 1 (.t 4), none⟩,
  ⟨some 28, .ld 1 false (.t 27), none⟩,
  ⟨some 29, .len false (.t 28), none⟩,
  ⟨some 30, .bin .gtr (.t 29) (.c (.i .i64 0)), none⟩,
  ⟨some 31, .mv (.t 30), none⟩,
  ⟨some 32, .mv (.t 9), some (31, false)⟩,
  ⟨some 33, .call (.c (.clo 119 [])) [.t 32, .c (.i .i64 2), .c (.i .i64 4)], some (31, false)⟩,
  ⟨some 34, .un .not (.t 33), some (31, false)⟩,
  ⟨some 35, .pick (.t 31) (.c (.b true)) (.t 34), none⟩,
  ⟨some 36, .mv (.t 35), none⟩,
  ⟨some 37, .fa 2 (.t 4), some (36, false)⟩,
  ⟨some 38, .ld 1 false (.t 37), some (36, false)⟩,
  ⟨some 39, .len false (.t 38), some (36, false)⟩,
  ⟨some 40, .mv (.t 9), some (36, false)⟩,
  ⟨some 41, .bin .sub (.t 40) (.c (.i .i64 1)), some (36, false)⟩,
  ⟨some 42, .bin .neq (.t 39) (.t 41), some (36, false)⟩,
  ⟨some 43, .pick (.t 36) (.c (.b true)) (.t 42), none⟩,
  ⟨some 44, .mv (.t 43), none⟩,
  ⟨some 45, .fa 4 (.t 4), some (44, false)⟩,
  ⟨some 46, .ld 1 false (.t 45), some (44, false)⟩,
  ⟨some 47, .len false (.t 46), some (44, false)⟩,
  ⟨some 48, .bin .gtr (.t 47) (.c (.i .i64 6)), some (44, false)⟩,
  ⟨some 49, .pick (.t 44) (.c (.b true)) (.t 48), none⟩]
def a130_r7 : List AOper := [⟨some 8, .mv (.c (.i .i64 0)), none⟩]
def a130_r8 : List AOper := [⟨some 10, .mv (.c (.i .i64 0)), none⟩]
def a130_r9 : List AOper := [⟨some 50, .mv (.t 10), none⟩,
  ⟨some 51, .fa 4 (.t 4), none⟩,
  ⟨some 52, .ld 1 false (.t 51), none⟩,
  ⟨some 53, .len false (.t 52), none⟩,
  ⟨some 54, .bin .lss (.t 50) (.t 53), none⟩]
def a130_r11 : List AOper := [⟨some 57, .fa 4 (.t 4), none⟩,
  ⟨some 58, .ld 1 false (.t 57), none⟩,
  ⟨some 59, .mv (.t 10), none⟩,
  ⟨some 60, .ia 3 (.t 58) (.t 59), none⟩,
  ⟨some 61, .ld 3 true (.t 60), none⟩,
  ⟨some 62, .call (.c (.clo 57 [])) [.t 61], none⟩,
  ⟨some 63, .un .not (.t 62), none⟩,
  ⟨some 64, .mv (.t 63), none⟩,
  ⟨some 65, .fa 4 (.t 4), some (64, false)⟩,
  ⟨some 66, .ld 1 false (.t 65), some (64, false)⟩,
  ⟨some 67, .mv (.t 10), some (64, false)⟩,
  ⟨some 68, .ia 3 (.t 66) (.t 67), some (64, false)⟩,
  ⟨some 69, .fa 0 (.t 68), some (64, false)⟩,
  ⟨some 70, .ld 1 false (.t 69), some (64, false)⟩,
  ⟨some 71, .bin .eql (.t 70) (.c (.i .i64 4)), some (64, false)⟩,
  ⟨some 72, .pick (.t 64) (.c (.b true)) (.t 71), none⟩,
  ⟨some 73, .mv (.t 72), none⟩,
  ⟨some 74, .fa 4 (.t 4), some (73, false)⟩,
  ⟨some 75, .ld 1 false (.t 74), some (73, false)⟩,
  ⟨some 76, .mv (.t 10), some (73, false)⟩,
  ⟨some 77, .ia 3 (.t 75) (.t 76), some (73, false)⟩,
  ⟨some 78, .fa 1 (.t 77), some (73, false)⟩,
  ⟨some 79, .ld 1 false (.t 78), some (73, false)⟩,
  ⟨some 80, .mv (.t 1), some (73, false)⟩,
  ⟨some 81, .mv (.t 2), some (73, false)⟩,
  ⟨some 82, .bin .sub (.t 81) (.c (.i .i64 1)), some (73, false)⟩,
  ⟨some 83, .call (.c (.clo 119 [])) [.t 79, .t 80, .t 82], some (73, false)⟩,
  ⟨some 84, .un .not (.t 83), some (73, false)⟩,
  ⟨some 85, .pick (.t 73) (.c (.b true)) (.t 84), none⟩]
def a130_r12 : List AOper := [⟨some 8, .mv (.c (.i .i64 0)), none⟩]
def a130_r10 : List AOper := [⟨some 55, .mv (.t 10), none⟩,
  ⟨some 56, .bin .add (.t 55) (.c (.i .i64 1)), none⟩,
  ⟨some 10, .mv (.t 56), none⟩]
def a130_l1 : ACode := .seq (.seq (.reg a130_r9 false []) (.cond (.t 54) (.skip) (.exit 0))) (.seq (.block 1 (.seq (.reg a130_r11 false []) (.cond (.t 85) (.seq (.reg a130_r12 false []) (.ret)) (.skip)))) (.reg a130_r10 false []))
def a130_r13 : List AOper := [⟨some 11, .mv (.c (.i .i64 0)), none⟩]
def a130_r14 : List AOper := [⟨some 86, .mv (.t 1), none⟩,
  ⟨some 12, .mv (.t 86), none⟩]
def a130_r15 : List AOper := [⟨some 13, .mv (.c (.i .i64 0)), none⟩]
def a130_r16 : List AOper := [⟨some 87, .mv (.t 13), none⟩,
  ⟨some 88, .mv (.t 9), none⟩,
  ⟨some 89, .bin .lss (.t 87) (.t 88), none⟩]
def a130_r18 : List AOper := [⟨some 92, .mv (.t 2), none⟩,
  ⟨some 14, .mv (.t 92), none⟩]
def a130_r19 : List AOper := [⟨some 93, .mv (.t 13), none⟩,
  ⟨some 94, .mv (.t 9), none⟩,
  ⟨some 95, .bin .sub (.t 94) (.c (.i .i64 1)), none⟩,
  ⟨some 96, .bin .lss (.t 93) (.t 95), none⟩]
def a130_r20 : List AOper := [⟨some 97, .fa 2 (.t 4), none⟩,
  ⟨some 98, .ld 1 false (.t 97), none⟩,
  ⟨some 99, .mv (.t 13), none⟩,
  ⟨some 100, .ia 1 (.t 98) (.t 99), none⟩,
  ⟨some 101, .ld 1 false (.t 100), none⟩,
  ⟨some 14, .mv (.t 101), none⟩]
def a130_r21 : List AOper := [⟨some 102, .mv (.t 14), none⟩,
  ⟨some 103, .mv (.t 12), none⟩,
  ⟨some 104, .bin .add (.t 103) (.c (.i .i64 1)), none⟩,
  ⟨some 105, .mv (.t 2), none⟩,
  ⟨some 106, .bin .sub (.t 105) (.c (.i .i64 1)), none⟩,
  ⟨some 107, .call (.c (.clo 119 [])) [.t 102, .t 104, .t 106], none⟩,
  ⟨some 108, .un .not (.t 107), none⟩]
def a130_r22 : List AOper := [⟨some 8, .mv (.c (.i .i64 0)), none⟩]
def a130_r23 : List AOper := [⟨some 109, .fa 3 (.t 4), none⟩,
  ⟨some 110, .ld 1 false (.t 109), none⟩,
  ⟨some 111, .mv (.t 13), none⟩,
  ⟨some 112, .ia 5 (.t 110) (.t 111), none⟩,
  ⟨some 113, .ld 5 true (.t 112), none⟩,
  ⟨some 114, .mv (.t 12), none⟩,
  ⟨some 115, .mv (.t 14), none⟩,
  ⟨some 116, .mv (.t 3), none⟩,
  ⟨some 117, .bin .sub (.t 116) (.c (.i .i64 1)), none⟩,
  ⟨some 118, .call (.c (.clo 130 [])) [.t 113, .t 114, .t 115, .t 117], none⟩,
  ⟨some 15, .mv (.t 118), none⟩]
def a130_r24 : List AOper := [⟨some 119, .mv (.t 15), none⟩,
  ⟨some 120, .bin .eql (.t 119) (.c (.i .i64 0)), none⟩,
  ⟨some 121, .mv (.t 120), none⟩,
  ⟨some 122, .mv (.t 13), some (121, false)⟩,
  ⟨some 123, .bin .gtr (.t 122) (.c (.i .i64 0)), some (121, false)⟩,
  ⟨some 124, .mv (.t 123), some (121, false)⟩,
  ⟨some 125, .mv (.t 15), some (124, true)⟩,
  ⟨some 126, .mv (.t 11), some (124, true)⟩,
  ⟨some 127, .bin .neq (.t 125) (.t 126), some (124, true)⟩,
  ⟨some 128, .pick (.t 124) (.t 127) (.c (.b false)), some (121, false)⟩,
  ⟨some 129, .pick (.t 121) (.c (.b true)) (.t 128), none⟩]
def a130_r25 : List AOper := [⟨some 8, .mv (.c (.i .i64 0)), none⟩]
def a130_r26 : List AOper := [⟨some 130, .mv (.t 15), none⟩,
  ⟨some 11, .mv (.t 130), none⟩]
def a130_r27 : List AOper := [⟨some 131, .mv (.t 14), none⟩,
  ⟨some 12, .mv (.t 131), none⟩]
def a130_r17 : List AOper := [⟨some 90, .mv (.t 13), none⟩,
  ⟨some 91, .bin .add (.t 90) (.c (.i .i64 1)), none⟩,
  ⟨some 13, .mv (.t 91), none⟩]
def a130_l2 : ACode := .seq (.seq (.reg a130_r16 false []) (.cond (.t 89) (.skip) (.exit 2))) (.seq (.block 3 (.seq (.reg a130_r18 false []) (.seq (.seq (.reg a130_r19 false []) (.cond (.t 96) (.seq (.reg a130_r20 false []) (.seq (.reg a130_r21 false []) (.cond (.t 108) (.seq (.reg a130_r22 false []) (.ret)) (.skip)))) (.skip))) (.seq (.reg a130_r23 false []) (.seq (.seq (.reg a130_r24 false []) (.cond (.t 129) (.seq (.reg a130_r25 false []) (.ret)) (.skip))) (.seq (.reg a130_r26 false []) (.reg a130_r27 false []))))))) (.reg a130_r17 false []))
def a130_r28 : List AOper := [⟨some 132, .mv (.t 11), none⟩,
  ⟨some 133, .bin .add (.t 132) (.c (.i .i64 1)), none⟩,
  ⟨some 8, .mv (.t 133), none⟩]
def a130 : AFn := ⟨[false, false, false, false], .seq (.reg a130_r0 false []) (.seq (.seq (.reg a130_r1 false []) (.cond (.t 17) (.seq (.reg a130_r2 false []) (.ret)) (.skip))) (.seq (.seq (.reg a130_r3 false []) (.cond (.t 19) (.seq (.reg a130_r4 false []) (.ret)) (.skip))) (.seq (.reg a130_r5 false []) (.seq (.seq (.reg a130_r6 false []) (.cond (.t 49) (.seq (.reg a130_r7 false []) (.ret)) (.skip))) (.seq (.seq (.reg a130_r8 false []) (.block 0 (.loop [] a130_l1))) (.seq (.reg a130_r13 false []) (.seq (.reg a130_r14 false []) (.seq (.seq (.reg a130_r15 false []) (.block 2 (.loop [] a130_l2))) (.seq (.reg a130_r28 false []) (.ret)))))))))), [.t 8], []⟩
theorem reads130 : readFn Tryz.prog Tryz.f130 [false, false, false, false] [] [[], []] = some a130 := by kernel_rfl
-- spec.l1Put
def a131_r0 : List AOper := [⟨some 6, .mv (.c (.emp)), none⟩]
def a131_r1 : List AOper := [⟨some 10, .rowOf 2 [.i .i64 0, .i .i64 0] 0 [], none⟩,
  ⟨some 7, .mv (.t 10), none⟩]
def a131_r2 : List AOper := [⟨some 8, .mv (.c (.b false)), none⟩]
def a131_r3 : List AOper := [⟨some 9, .mv (.c (.i .i64 0)), none⟩]
def a131_r4 : List AOper := [⟨some 11, .mv (.t 9), none⟩,
  ⟨some 12, .mv (.t 0), none⟩,
  ⟨some 13, .len false (.t 12), none⟩,
  ⟨some 14, .bin .lss (.t 11) (.t 13), none⟩]
def a131_r6 : List AOper := [⟨some 17, .mv (.t 8), none⟩,
  ⟨some 18, .un .not (.t 17), none⟩,
  ⟨some 19, .mv (.t 18), none⟩,
  ⟨some 20, .mv (.t 0), some (19, true)⟩,
  ⟨some 21, .mv (.t 9), some (19, true)⟩,
  ⟨some 22, .ia 2 (.t 20) (.t 21), some (19, true)⟩,
  ⟨some 23, .fa 0 (.t 22), some (19, true)⟩,
  ⟨some 24, .ld 1 false (.t 23), some (19, true)⟩,
  ⟨some 25, .mv (.t 1), some (19, true)⟩,
  ⟨some 26, .bin .geq (.t 24) (.t 25), some (19, true)⟩,
  ⟨some 27, .pick (.t 19) (.t 26) (.c (.b false)), none⟩]
def a131_r7 : List AOper := [⟨some 28, .mv (.t 7), none⟩,
  ⟨some 29, .mv (.t 1), none⟩,
  ⟨some 30, .mv (.t 2), none⟩,
  ⟨some 31, .build [.i .i64 0, .i .i64 0] [(0, 1, .t 29), (1, 1, .t 30)], none⟩,
  ⟨some 32, .rowOf 2 [.i .i64 0, .i .i64 0] 1 [(0, .t 31)], none⟩,
  ⟨some 33, .ap 2 16 (.t 28) (.t 32), none⟩,
  ⟨some 7, .mv (.t 33), none⟩]
def a131_r8 : List AOper := [⟨some 8, .mv (.c (.b true)), none⟩]
def a131_r9 : List AOper := [⟨some 34, .mv (.t 0), none⟩,
  ⟨some 35, .mv (.t 9), none⟩,
  ⟨some 36, .ia 2 (.t 34) (.t 35), none⟩,
  ⟨some 37, .fa 0 (.t 36), none⟩,
  ⟨some 38, .ld 1 false (.t 37), none⟩,
  ⟨some 39, .mv (.t 1), none⟩,
  ⟨some 40, .bin .neq (.t 38) (.t 39), none⟩]
def a131_r10 : List AOper := [⟨some 41, .mv (.t 7), none⟩,
  ⟨some 42, .mv (.t 0), none⟩,
  ⟨some 43, .mv (.t 9), none⟩,
  ⟨some 44, .ia 2 (.t 42) (.t 43), none⟩,
  ⟨some 45, .ld 2 true (.t 44), none⟩,
  ⟨some 46, .rowOf 2 [.i .i64 0, .i .i64 0] 1 [(0, .t 45)], none⟩,
  ⟨some 47, .ap 2 16 (.t 41) (.t 46), none⟩,
  ⟨some 7, .mv (.t 47), none⟩]
def a131_r5 : List AOper := [⟨some 15, .mv (.t 9), none⟩,
  ⟨some 16, .bin .add (.t 15) (.c (.i .i64 1)), none⟩,
  ⟨some 9, .mv (.t 16), none⟩]
def a131_l1 : ACode := .seq (.seq (.reg a131_r4 false []) (.cond (.t 14) (.skip) (.exit 0))) (.seq (.block 1 (.seq (.seq (.reg a131_r6 false []) (.cond (.t 27) (.seq (.reg a131_r7 false []) (.reg a131_r8 false [])) (.skip))) (.seq (.reg a131_r9 false []) (.cond (.t 40) (.reg a131_r10 false []) (.skip))))) (.reg a131_r5 false []))
def a131_r11 : List AOper := [⟨some 48, .mv (.t 8), none⟩,
  ⟨some 49, .un .not (.t 48), none⟩]
def a131_r12 : List AOper := [⟨some 50, .mv (.t 7), none⟩,
  ⟨some 51, .mv (.t 1), none⟩,
  ⟨some 52, .mv (.t 2), none⟩,
  ⟨some 53, .build [.i .i64 0, .i .i64 0] [(0, 1, .t 51), (1, 1, .t 52)], none⟩,
  ⟨some 54, .rowOf 2 [.i .i64 0, .i .i64 0] 1 [(0, .t 53)], none⟩,
  ⟨some 55, .ap 2 16 (.t 50) (.t 54), none⟩,
  ⟨some 7, .mv (.t 55), none⟩]
def a131_r13 : List AOper := [⟨some 56, .mv (.t 7), none⟩,
  ⟨some 6, .mv (.t 56), none⟩]
def a131 : AFn := ⟨[false, false, false], .seq (.reg a131_r0 false []) (.seq (.reg a131_r1 false []) (.seq (.reg a131_r2 false []) (.seq (.seq (.reg a131_r3 false []) (.block 0 (.loop [] a131_l1))) (.seq (.seq (.reg a131_r11 false []) (.cond (.t 49) (.reg a131_r12 false []) (.skip))) (.seq (.reg a131_r13 false []) (.ret)))))), [.t 6], []⟩
theorem reads131 : readFn Tryz.prog Tryz.f131 [false, false, false] [] [[]] = some a131 := by kernel_rfl
-- slices.IndexFunc[[]impl.Pair,impl.Pair]
def a133_r0 : List AOper := [⟨some 4, .mv (.c (.i .i64 0)), none⟩]
def a133_r1 : List AOper := [⟨some 6, .mv (.t 0), none⟩,
  ⟨some 7, .len false (.t 6), none⟩,
  ⟨some 8, .mv (.c (.i .i64 0)), none⟩]
def a133_r2 : List AOper := [⟨some 9, .bin .lss (.t 8) (.t 7), none⟩]
def a133_r3 : List AOper := [⟨some 10, .mv (.t 8), none⟩,
  ⟨some 5, .mv (.t 10), none⟩]
def a133_r4 : List AOper := [⟨some 11, .mv (.t 1), none⟩,
  ⟨some 12, .mv (.t 0), none⟩,
  ⟨some 13, .mv (.t 5), none⟩,
  ⟨some 14, .ia 2 (.t 12) (.t 13), none⟩,
  ⟨some 15, .ld 2 true (.t 14), none⟩,
  ⟨some 16, .call (.t 11) [.t 15], none⟩]
def a133_r5 : List AOper := [⟨some 17, .mv (.t 5), none⟩,
  ⟨some 4, .mv (.t 17), none⟩]
def a133_r6 : List AOper := [⟨some 18, .bin .add (.t 8) (.c (.i .i64 1)), none⟩,
  ⟨some 8, .mv (.t 18), none⟩]
def a133_l1 : ACode := .seq (.reg a133_r2 false []) (.seq (.cond (.t 9) (.skip) (.exit 0)) (.seq (.block 1 (.seq (.reg a133_r3 false []) (.seq (.reg a133_r4 false []) (.cond (.t 16) (.seq (.reg a133_r5 false []) (.ret)) (.skip))))) (.reg a133_r6 false [])))
def a133_r7 : List AOper := [⟨some 4, .mv (.c (.i .i64 (-1))), none⟩]
def a133 : AFn := ⟨[false, false], .seq (.reg a133_r0 false []) (.seq (.seq (.reg a133_r1 false []) (.block 0 (.loop [] a133_l1))) (.seq (.reg a133_r7 false []) (.ret))), [.t 4], []⟩
theorem reads133 : readFn Tryz.prog Tryz.f133 [false, false] [] [[]] = some a133 := by kernel_rfl
-- spec.l1Byte
def a144_r0 : List AOper := [⟨some 2, .mv (.c (.i .i64 0)), none⟩]
def a144_r1 : List AOper := [⟨some 4, .mv (.t 0), none⟩,
  ⟨some 5, .mv (.t 0), none⟩,
  ⟨some 6, .nc (.t 5), none⟩,
  ⟨some 7, .fa 2 (.t 6), none⟩,
  ⟨some 8, .ld 1 false (.t 7), none⟩,
  ⟨some 9, .bin .mul (.t 8) (.c (.i .i64 6364136223846793005)), none⟩,
  ⟨some 10, .bin .add (.t 9) (.c (.i .i64 1442695040888963407)), none⟩,
  ⟨some 11, .nc (.t 4), none⟩,
  ⟨some 12, .fa 2 (.t 11), none⟩,
  ⟨none, .st 1 (.t 12) (.t 10), none⟩]
def a144_r2 : List AOper := [⟨some 13, .mv (.t 0), none⟩,
  ⟨some 14, .nc (.t 13), none⟩,
  ⟨some 15, .fa 2 (.t 14), none⟩,
  ⟨some 16, .ld 1 false (.t 15), none⟩,
  ⟨some 17, .bin .shr (.t 16) (.c (.i .u64 33)), none⟩,
  ⟨some 18, .mv (.t 0), none⟩,
  ⟨some 19, .nc (.t 18), none⟩,
  ⟨some 20, .fa 2 (.t 19), none⟩,
  ⟨some 21, .ld 1 false (.t 20), none⟩,
  ⟨some 22, .bin .shr (.t 21) (.c (.i .u64 45)), none⟩,
  ⟨some 23, .bin .xor (.t 17) (.t 22), none⟩,
  ⟨some 24, .bin .and (.t 23) (.c (.i .i64 255)), none⟩,
  ⟨some 3, .mv (.t 24), none⟩]
def a144_r3 : List AOper := [⟨some 25, .mv (.t 0), none⟩,
  ⟨some 26, .nc (.t 25), none⟩,
  ⟨some 27, .fa 1 (.t 26), none⟩,
  ⟨some 28, .ld 1 false (.t 27), none⟩,
  ⟨some 29, .mv (.t 0), none⟩,
  ⟨some 30, .nc (.t 29), none⟩,
  ⟨some 31, .fa 0 (.t 30), none⟩,
  ⟨some 32, .ld 1 false (.t 31), none⟩,
  ⟨some 33, .len false (.t 32), none⟩,
  ⟨some 34, .bin .lss (.t 28) (.t 33), none⟩]
def a144_r4 : List AOper := [⟨some 35, .mv (.t 3), none⟩,
  ⟨some 36, .mv (.t 0), none⟩,
  ⟨some 37, .nc (.t 36), none⟩,
  ⟨some 38, .fa 0 (.t 37), none⟩,
  ⟨some 39, .ld 1 false (.t 38), none⟩,
  ⟨some 40, .mv (.t 0), none⟩,
  ⟨some 41, .nc (.t 40), none⟩,
  ⟨some 42, .fa 1 (.t 41), none⟩,
  ⟨some 43, .ld 1 false (.t 42), none⟩,
  ⟨some 44, .ia 1 (.t 39) (.t 43), none⟩,
  ⟨some 45, .ld 1 false (.t 44), none⟩,
  ⟨some 46, .cvI .i64 (.t 45), none⟩,
  ⟨some 47, .bin .add (.t 35) (.t 46), none⟩,
  ⟨some 48, .bin .and (.t 47) (.c (.i .i64 255)), none⟩,
  ⟨some 3, .mv (.t 48), none⟩]
def a144_r5 : List AOper := [⟨some 49, .mv (.t 0), none⟩,
  ⟨some 50, .mv (.t 0), none⟩,
  ⟨some 51, .nc (.t 50), none⟩,
  ⟨some 52, .fa 1 (.t 51), none⟩,
  ⟨some 53, .ld 1 false (.t 52), none⟩,
  ⟨some 54, .bin .add (.t 53) (.c (.i .i64 1)), none⟩,
  ⟨some 55, .nc (.t 49), none⟩,
  ⟨some 56, .fa 1 (.t 55), none⟩,
  ⟨none, .st 1 (.t 56) (.t 54), none⟩]
def a144_r6 : List AOper := [⟨some 57, .mv (.t 3), none⟩,
  ⟨some 2, .mv (.t 57), none⟩]
def a144 : AFn := ⟨[true], .seq (.reg a144_r0 false []) (.seq (.reg a144_r1 false []) (.seq (.reg a144_r2 true []) (.seq (.seq (.reg a144_r3 true []) (.cond (.t 34) (.seq (.reg a144_r4 true []) (.reg a144_r5 false [])) (.skip))) (.seq (.reg a144_r6 false []) (.ret))))), [.t 2], []⟩
theorem reads144 : readFn Tryz.prog Tryz.f144 [true] [] [] = some a144 := by kernel_rfl
-- slices.ContainsFunc[[]impl.Pair,impl.Pair]
def a146_r0 : List AOper := [⟨some 4, .mv (.c (.b false)), none⟩]
def a146_r1 : List AOper := [⟨some 5, .mv (.t 0), none⟩,
  ⟨some 6, .mv (.t 1), none⟩,
  ⟨some 7, .call (.c (.clo 133 [])) [.t 5, .t 6], none⟩,
  ⟨some 8, .bin .geq (.t 7) (.c (.i .i64 0)), none⟩,
  ⟨some 4, .mv (.t 8), none⟩]
def a146 : AFn := ⟨[false, false], .seq (.reg a146_r0 false []) (.seq (.reg a146_r1 false []) (.ret)), [.t 4], []⟩
theorem reads146 : readFn Tryz.prog Tryz.f146 [false, false] [] [] = some a146 := by kernel_rfl
-- impl.leafOk$1
def a147_r0 : List AOper := [⟨some 3, .box (.t 0), none⟩,
  ⟨some 4, .mv (.c (.b false)), none⟩]
def a147_r1 : List AOper := [⟨some 5, .fa 0 (.t 3), none⟩,
  ⟨some 6, .ld 1 false (.t 5), none⟩,
  ⟨some 7, .ld 1 false (.t 1), none⟩,
  ⟨some 8, .ld 1 false (.t 2), none⟩,
  ⟨some 9, .bin .sub (.t 8) (.c (.i .i64 1)), none⟩,
  ⟨some 10, .call (.c (.clo 95 [])) [.t 6, .t 7, .t 9], none⟩,
  ⟨some 11, .un .not (.t 10), none⟩,
  ⟨some 4, .mv (.t 11), none⟩]
def a147 : AFn := ⟨[false, false, false], .seq (.reg a147_r0 false []) (.seq (.reg a147_r1 false []) (.ret)), [.t 4], []⟩
theorem reads147 : readFn Tryz.prog Tryz.f147 [false, false, false] [] [] = some a147 := by kernel_rfl
-- slices.IndexFunc[[]impl.Msg,impl.Msg]
def a148_r0 : List AOper := [⟨some 4, .mv (.c (.i .i64 0)), none⟩]
def a148_r1 : List AOper := [⟨some 6, .mv (.t 0), none⟩,
  ⟨some 7, .len false (.t 6), none⟩,
  ⟨some 8, .mv (.c (.i .i64 0)), none⟩]
def a148_r2 : List AOper := [⟨some 9, .bin .lss (.t 8) (.t 7), none⟩]
def a148_r3 : List AOper := [⟨some 10, .mv (.t 8), none⟩,
  ⟨some 5, .mv (.t 10), none⟩]
def a148_r4 : List AOper := [⟨some 11, .mv (.t 1), none⟩,
  ⟨some 12, .mv (.t 0), none⟩,
  ⟨some 13, .mv (.t 5), none⟩,
  ⟨some 14, .ia 3 (.t 12) (.t 13), none⟩,
  ⟨some 15, .ld 3 true (.t 14), none⟩,
  ⟨some 16, .call (.t 11) [.t 15], none⟩]
def a148_r5 : List AOper := [⟨some 17, .mv (.t 5), none⟩,
  ⟨some 4, .mv (.t 17), none⟩]
def a148_r6 : List AOper := [⟨some 18, .bin .add (.t 8) (.c (.i .i64 1)), none⟩,
  ⟨some 8, .mv (.t 18), none⟩]
def a148_l1 : ACode := .seq (.reg a148_r2 false []) (.seq (.cond (.t 9) (.skip) (.exit 0)) (.seq (.block 1 (.seq (.reg a148_r3 false []) (.seq (.reg a148_r4 false []) (.cond (.t 16) (.seq (.reg a148_r5 false []) (.ret)) (.skip))))) (.reg a148_r6 false [])))
def a148_r7 : List AOper := [⟨some 4, .mv (.c (.i .i64 (-1))), none⟩]
def a148 : AFn := ⟨[false, false], .seq (.reg a148_r0 false []) (.seq (.seq (.reg a148_r1 false []) (.block 0 (.loop [] a148_l1))) (.seq (.reg a148_r7 false []) (.ret))), [.t 4], []⟩
theorem reads148 : readFn Tryz.prog Tryz.f148 [false, false] [] [[]] = some a148 := by kernel_rfl
-- impl.parts
def a149_r0 : List AOper := [⟨some 2, .mv (.c (.emp)), none⟩]
def a149_r1 : List AOper := [⟨some 5, .rowOf 1 [.i .i64 0] 0 [], none⟩,
  ⟨some 3, .mv (.t 5), none⟩]
def a149_r2 : List AOper := [⟨some 4, .mv (.c (.i .i64 0)), none⟩]
def a149_r3 : List AOper := [⟨some 6, .mv (.t 4), none⟩,
  ⟨some 7, .bin .add (.t 6) (.c (.i .i64 1)), none⟩,
  ⟨some 8, .mv (.t 0), none⟩,
  ⟨some 9, .bin .lss (.t 7) (.t 8), none⟩,
  ⟨some 10, .mv (.t 9), none⟩,
  ⟨some 11, .mv (.t 4), some (10, false)⟩,
  ⟨some 12, .bin .eql (.t 11) (.c (.i .i64 0)), some (10, false)⟩,
  ⟨some 13, .pick (.t 10) (.c (.b true)) (.t 12), none⟩]
def a149_r5 : List AOper := [⟨some 16, .mv (.t 3), none⟩,
  ⟨some 17, .mv (.t 4), none⟩,
  ⟨some 18, .rowOf 1 [.i .i64 0] 1 [(0, .t 17)], none⟩,
  ⟨some 19, .ap 1 8 (.t 16) (.t 18), none⟩,
  ⟨some 3, .mv (.t 19), none⟩]
def a149_r4 : List AOper := [⟨some 14, .mv (.t 4), none⟩,
  ⟨some 15, .bin .add (.t 14) (.c (.i .i64 2)), none⟩,
  ⟨some 4, .mv (.t 15), none⟩]
def a149_l1 : ACode := .seq (.seq (.reg a149_r3 false []) (.cond (.t 13) (.skip) (.exit 0))) (.seq (.block 1 (.reg a149_r5 false [])) (.reg a149_r4 false []))
def a149_r6 : List AOper := [⟨some 20, .mv (.t 3), none⟩,
  ⟨some 2, .mv (.t 20), none⟩]
def a149 : AFn := ⟨[false], .seq (.reg a149_r0 false []) (.seq (.reg a149_r1 false []) (.seq (.seq (.reg a149_r2 false []) (.block 0 (.loop [] a149_l1))) (.seq (.reg a149_r6 false []) (.ret)))), [.t 2], []⟩
theorem reads149 : readFn Tryz.prog Tryz.f149 [false] [] [[]] = some a149 := by kernel_rfl
-- impl.end
def a150_r0 : List AOper := [⟨some 6, .mv (.c (.i .i64 0)), none⟩]
def a150_r1 : List AOper := [⟨some 7, .mv (.t 1), none⟩,
  ⟨some 8, .bin .add (.t 7) (.c (.i .i64 1)), none⟩,
  ⟨some 9, .mv (.t 0), none⟩,
  ⟨some 10, .len false (.t 9), none⟩,
  ⟨some 11, .bin .lss (.t 8) (.t 10), none⟩]
def a150_r2 : List AOper := [⟨some 12, .mv (.t 0), none⟩,
  ⟨some 13, .mv (.t 1), none⟩,
  ⟨some 14, .bin .add (.t 13) (.c (.i .i64 1)), none⟩,
  ⟨some 15, .ia 1 (.t 12) (.t 14), none⟩,
  ⟨some 16, .ld 1 false (.t 15), none⟩,
  ⟨some 6, .mv (.t 16), none⟩]
def a150_r3 : List AOper := [⟨some 17, .mv (.t 2), none⟩,
  ⟨some 6, .mv (.t 17), none⟩]
def a150 : AFn := ⟨[false, false, false], .seq (.reg a150_r0 false []) (.seq (.seq (.reg a150_r1 false []) (.cond (.t 11) (.seq (.reg a150_r2 false []) (.ret)) (.skip))) (.seq (.reg a150_r3 false []) (.ret))), [.t 6], []⟩
theorem reads150 : readFn Tryz.prog Tryz.f150 [false, false, false] [] [] = some a150 := by kernel_rfl
-- impl.Shrink$1
def a151_r0 : List AOper := [⟨some 1, .box (.t 0), none⟩,
  ⟨some 2, .mv (.c (.b false)), none⟩]
def a151_r1 : List AOper := [⟨some 3, .ld 3 true (.t 1), none⟩,
  ⟨some 4, .call (.c (.clo 49 [])) [.t 3], none⟩,
  ⟨some 5, .un .not (.t 4), none⟩,
  ⟨some 6, .mv (.t 5), none⟩,
  ⟨some 7, .fa 0 (.t 1), some (6, false)⟩,
  ⟨some 8, .ld 1 false (.t 7), some (6, false)⟩,
  ⟨some 9, .bin .eql (.t 8) (.c (.i .i64 4)), some (6, false)⟩,
  ⟨some 10, .pick (.t 6) (.c (.b true)) (.t 9), none⟩,
  ⟨some 2, .mv (.t 10), none⟩]
def a151 : AFn := ⟨[false], .seq (.reg a151_r0 false []) (.seq (.reg a151_r1 false []) (.ret)), [.t 2], []⟩
theorem reads151 : readFn Tryz.prog Tryz.f151 [false] [] [] = some a151 := by kernel_rfl
-- impl.Shrink$2
def a152_r0 : List AOper := [⟨some 2, .box (.t 0), none⟩,
  ⟨some 3, .mv (.c (.b false)), none⟩]
def a152_r1 : List AOper := [⟨some 4, .fa 1 (.t 2), none⟩,
  ⟨some 5, .ld 1 false (.t 4), none⟩,
  ⟨some 6, .fa 1 (.t 1), none⟩,
  ⟨some 7, .ld 1 false (.t 6), none⟩,
  ⟨some 8, .bin .eql (.t 5) (.t 7), none⟩,
  ⟨some 9, .mv (.t 8), none⟩,
  ⟨some 10, .ld 3 true (.t 2), some (9, true)⟩,
  ⟨some 11, .call (.c (.clo 153 [])) [.t 10], some (9, true)⟩,
  ⟨some 12, .pick (.t 9) (.t 11) (.c (.b false)), none⟩,
  ⟨some 3, .mv (.t 12), none⟩]
def a152 : AFn := ⟨[false, false], .seq (.reg a152_r0 false []) (.seq (.reg a152_r1 false []) (.ret)), [.t 3], []⟩
theorem reads152 : readFn Tryz.prog Tryz.f152 [false, false] [] [] = some a152 := by kernel_rfl
-- impl.sets
def a153_r0 : List AOper := [⟨some 1, .box (.t 0), none⟩,
  ⟨some 2, .mv (.c (.b false)), none⟩]
def a153_r1 : List AOper := [⟨some 3, .fa 0 (.t 1), none⟩,
  ⟨some 4, .ld 1 false (.t 3), none⟩,
  ⟨some 5, .bin .eql (.t 4) (.c (.i .i64 1)), none⟩,
  ⟨some 6, .mv (.t 5), none⟩,
  ⟨some 7, .fa 0 (.t 1), some (6, false)⟩,
  ⟨some 8, .ld 1 false (.t 7), some (6, false)⟩,
  ⟨some 9, .bin .eql (.t 8) (.c (.i .i64 2)), some (6, false)⟩,
  ⟨some 10, .pick (.t 6) (.c (.b true)) (.t 9), none⟩,
  ⟨some 2, .mv (.t 10), none⟩]
def a153 : AFn := ⟨[false], .seq (.reg a153_r0 false []) (.seq (.reg a153_r1 false []) (.ret)), [.t 2], []⟩
theorem reads153 : readFn Tryz.prog Tryz.f153 [false] [] [] = some a153 := by kernel_rfl
-- impl.Shrink$3
def a154_r0 : List AOper := [⟨some 2, .box (.t 0), none⟩,
  ⟨some 3, .mv (.c (.b false)), none⟩]
def a154_r1 : List AOper := [⟨some 4, .fa 1 (.t 2), none⟩,
  ⟨some 5, .ld 1 false (.t 4), none⟩,
  ⟨some 6, .fa 1 (.t 1), none⟩,
  ⟨some 7, .ld 1 false (.t 6), none⟩,
  ⟨some 8, .bin .eql (.t 5) (.t 7), none⟩,
  ⟨some 3, .mv (.t 8), none⟩]
def a154 : AFn := ⟨[false, false], .seq (.reg a154_r0 false []) (.seq (.reg a154_r1 false []) (.ret)), [.t 3], []⟩
theorem reads154 : readFn Tryz.prog Tryz.f154 [false, false] [] [] = some a154 := by kernel_rfl
-- slices.Grow[[]impl.Msg,impl.Msg]
def a155_r0 : List AOper := [⟨some 4, .mv (.c (.emp)), none⟩]
def a155_r1 : List AOper := [⟨some 5, .mv (.t 1), none⟩,
  ⟨some 6, .bin .lss (.t 5) (.c (.i .i64 0)), none⟩]
def a155_r2 : List AOper := [⟨some 7, .bad, none⟩,
  ⟨none, .bad, none⟩]
def a155_r3 : List AOper := [⟨some 8, .mv (.t 1), none⟩,
  ⟨some 9, .mv (.t 0), none⟩,
  ⟨some 10, .cap (.t 9), none⟩,
  ⟨some 11, .mv (.t 0), none⟩,
  ⟨some 12, .len false (.t 11), none⟩,
  ⟨some 13, .bin .sub (.t 10) (.t 12), none⟩,
  ⟨some 14, .bin .sub (.t 8) (.t 13), none⟩,
  ⟨some 1, .mv (.t 14), none⟩]
def a155_r4 : List AOper := [⟨some 15, .mv (.t 1), none⟩,
  ⟨some 16, .bin .gtr (.t 15) (.c (.i .i64 0)), none⟩]
def a155_r5 : List AOper := [⟨some 17, .mv (.t 0), none⟩,
  ⟨some 18, .mv (.t 0), none⟩,
  ⟨some 19, .cap (.t 18), none⟩,
  ⟨some 20, .sl 3 (.t 17) none (some (.t 19)) none, none⟩,
  ⟨some 21, .mv (.t 1), none⟩,
  ⟨some 22, .apz 3 24 [.i .i64 0, .i .i64 0, .i .i64 0] (.t 20) (.t 21), none⟩,
  ⟨some 23, .mv (.t 0), none⟩,
  ⟨some 24, .len false (.t 23), none⟩,
  ⟨some 25, .sl 3 (.t 22) none (some (.t 24)) none, none⟩,
  ⟨some 0, .mv (.t 25), none⟩]
def a155_r6 : List AOper := [⟨some 26, .mv (.t 0), none⟩,
  ⟨some 4, .mv (.t 26), none⟩]
def a155 : AFn := ⟨[false, false], .seq (.reg a155_r0 false []) (.seq (.seq (.reg a155_r1 false []) (.cond (.t 6) (.reg a155_r2 false []) (.skip))) (.seq (.seq (.reg a155_r3 false []) (.seq (.reg a155_r4 false []) (.cond (.t 16) (.reg a155_r5 false []) (.skip)))) (.seq (.reg a155_r6 false []) (.ret)))), [.t 4], []⟩
theorem reads155 : readFn Tryz.prog Tryz.f155 [false, false] [] [] = some a155 := by kernel_rfl
-- slices.Concat[[]impl.Tree,impl.Tree]
def a156_r0 : List AOper := [⟨some 2, .mv (.c (.emp)), none⟩]
def a156_r1 : List AOper := [⟨some 3, .mv (.c (.i .i64 0)), none⟩]
def a156_r2 : List AOper := [⟨some 9, .mv (.t 0), none⟩,
  ⟨some 10, .len false (.t 9), none⟩,
  ⟨some 11, .mv (.c (.i .i64 0)), none⟩]
def a156_r3 : List AOper := [⟨some 12, .bin .lss (.t 11) (.t 10), none⟩]
def a156_r4 : List AOper := [⟨some 13, .ia 1 (.t 9) (.t 11), none⟩,
  ⟨some 14, .ld 1 false (.t 13), none⟩,
  ⟨some 5, .mv (.t 14), none⟩]
def a156_r5 : List AOper := [⟨some 15, .mv (.t 3), none⟩,
  ⟨some 16, .mv (.t 5), none⟩,
  ⟨some 17, .len false (.t 16), none⟩,
  ⟨some 18, .bin .add (.t 15) (.t 17), none⟩,
  ⟨some 3, .mv (.t 18), none⟩]
def a156_r6 : List AOper := [⟨some 19, .mv (.t 3), none⟩,
  ⟨some 20, .bin .lss (.t 19) (.c (.i .i64 0)), none⟩]
def a156_r7 : List AOper := [⟨some 21, .bad, none⟩,
  ⟨none, .bad, none⟩]
def a156_r8 : List AOper := [⟨some 22, .bin .add (.t 11) (.c (.i .i64 1)), none⟩,
  ⟨some 11, .mv (.t 22), none⟩]
def a156_l1 : ACode := .seq (.reg a156_r3 false []) (.seq (.cond (.t 12) (.skip) (.exit 0)) (.seq (.block 1 (.seq (.reg a156_r4 false []) (.seq (.reg a156_r5 false []) (.seq (.reg a156_r6 false []) (.cond (.t 20) (.reg a156_r7 false []) (.skip)))))) (.reg a156_r8 false [])))
def a156_r9 : List AOper := [⟨some 23, .mv (.t 3), none⟩,
  ⟨some 24, .call (.c (.clo 173 [])) [.c (.emp), .t 23], none⟩,
  ⟨some 6, .mv (.t 24), none⟩]
def a156_r10 : List AOper := [⟨some 25, .mv (.t 0), none⟩,
  ⟨some 26, .len false (.t 25), none⟩,
  ⟨some 27, .mv (.c (.i .i64 0)), none⟩]
def a156_r11 : List AOper := [⟨some 28, .bin .lss (.t 27) (.t 26), none⟩]
def a156_r12 : List AOper := [⟨some 29, .ia 1 (.t 25) (.t 27), none⟩,
  ⟨some 30, .ld 1 false (.t 29), none⟩,
  ⟨some 8, .mv (.t 30), none⟩]
def a156_r13 : List AOper := [⟨some 31, .mv (.t 6), none⟩,
  ⟨some 32, .mv (.t 8), none⟩,
  ⟨some 33, .ap 5 104 (.t 31) (.t 32), none⟩,
  ⟨some 6, .mv (.t 33), none⟩]
def a156_r14 : List AOper := [⟨some 34, .bin .add (.t 27) (.c (.i .i64 1)), none⟩,
  ⟨some 27, .mv (.t 34), none⟩]
def a156_l2 : ACode := .seq (.reg a156_r11 false []) (.seq (.cond (.t 28) (.skip) (.exit 2)) (.seq (.block 3 (.seq (.reg a156_r12 false []) (.reg a156_r13 false []))) (.reg a156_r14 false [])))
def a156_r15 : List AOper := [⟨some 35, .mv (.t 6), none⟩,
  ⟨some 2, .mv (.t 35), none⟩]
def a156 : AFn := ⟨[false], .seq (.reg a156_r0 false []) (.seq (.reg a156_r1 false []) (.seq (.seq (.reg a156_r2 false []) (.block 0 (.loop [] a156_l1))) (.seq (.reg a156_r9 false []) (.seq (.seq (.reg a156_r10 false []) (.block 2 (.loop [] a156_l2))) (.seq (.reg a156_r15 false []) (.ret)))))), [.t 2], []⟩
theorem reads156 : readFn Tryz.prog Tryz.f156 [false] [] [[], []] = some a156 := by kernel_rfl
-- slices.Concat[[]int,int]
def a157_r0 : List AOper := [⟨some 2, .mv (.c (.emp)), none⟩]
def a157_r1 : List AOper := [⟨some 3, .mv (.c (.i .i64 0)), none⟩]
def a157_r2 : List AOper := [⟨some 9, .mv (.t 0), none⟩,
  ⟨some 10, .len false (.t 9), none⟩,
  ⟨some 11, .mv (.c (.i .i64 0)), none⟩]
def a157_r3 : List AOper := [⟨some 12, .bin .lss (.t 11) (.t 10), none⟩]
def a157_r4 : List AOper := [⟨some 13, .ia 1 (.t 9) (.t 11), none⟩,
  ⟨some 14, .ld 1 false (.t 13), none⟩,
  ⟨some 5, .mv (.t 14), none⟩]
def a157_r5 : List AOper := [⟨some 15, .mv (.t 3), none⟩,
  ⟨some 16, .mv (.t 5), none⟩,
  ⟨some 17, .len false (.t 16), none⟩,
  ⟨some 18, .bin .add (.t 15) (.t 17), none⟩,
  ⟨some 3, .mv (.t 18), none⟩]
def a157_r6 : List AOper := [⟨some 19, .mv (.t 3), none⟩,
  ⟨some 20, .bin .lss (.t 19) (.c (.i .i64 0)), none⟩]
def a157_r7 : List AOper := [⟨some 21, .bad, none⟩,
  ⟨none, .bad, none⟩]
def a157_r8 : List AOper := [⟨some 22, .bin .add (.t 11) (.c (.i .i64 1)), none⟩,
  ⟨some 11, .mv (.t 22), none⟩]
def a157_l1 : ACode := .seq (.reg a157_r3 false []) (.seq (.cond (.t 12) (.skip) (.exit 0)) (.seq (.block 1 (.seq (.reg a157_r4 false []) (.seq (.reg a157_r5 false []) (.seq (.reg a157_r6 false []) (.cond (.t 20) (.reg a157_r7 false []) (.skip)))))) (.reg a157_r8 false [])))
def a157_r9 : List AOper := [⟨some 23, .mv (.t 3), none⟩,
  ⟨some 24, .call (.c (.clo 174 [])) [.c (.emp), .t 23], none⟩,
  ⟨some 6, .mv (.t 24), none⟩]
def a157_r10 : List AOper := [⟨some 25, .mv (.t 0), none⟩,
  ⟨some 26, .len false (.t 25), none⟩,
  ⟨some 27, .mv (.c (.i .i64 0)), none⟩]
def a157_r11 : List AOper := [⟨some 28, .bin .lss (.t 27) (.t 26), none⟩]
def a157_r12 : List AOper := [⟨some 29, .ia 1 (.t 25) (.t 27), none⟩,
  ⟨some 30, .ld 1 false (.t 29), none⟩,
  ⟨some 8, .mv (.t 30), none⟩]
def a157_r13 : List AOper := [⟨some 31, .mv (.t 6), none⟩,
  ⟨some 32, .mv (.t 8), none⟩,
  ⟨some 33, .ap 1 8 (.t 31) (.t 32), none⟩,
  ⟨some 6, .mv (.t 33), none⟩]
def a157_r14 : List AOper := [⟨some 34, .bin .add (.t 27) (.c (.i .i64 1)), none⟩,
  ⟨some 27, .mv (.t 34), none⟩]
def a157_l2 : ACode := .seq (.reg a157_r11 false []) (.seq (.cond (.t 28) (.skip) (.exit 2)) (.seq (.block 3 (.seq (.reg a157_r12 false []) (.reg a157_r13 false []))) (.reg a157_r14 false [])))
def a157_r15 : List AOper := [⟨some 35, .mv (.t 6), none⟩,
  ⟨some 2, .mv (.t 35), none⟩]
def a157 : AFn := ⟨[false], .seq (.reg a157_r0 false []) (.seq (.reg a157_r1 false []) (.seq (.seq (.reg a157_r2 false []) (.block 0 (.loop [] a157_l1))) (.seq (.reg a157_r9 false []) (.seq (.seq (.reg a157_r10 false []) (.block 2 (.loop [] a157_l2))) (.seq (.reg a157_r15 false []) (.ret)))))), [.t 2], []⟩
theorem reads157 : readFn Tryz.prog Tryz.f157 [false] [] [[], []] = some a157 := by kernel_rfl
-- slices.rotateRight[impl.Pair]
def a159_r0 : List AOper := [⟨some 4, .mv (.t 0), none⟩,
  ⟨some 5, .mv (.t 0), none⟩,
  ⟨some 6, .len false (.t 5), none⟩,
  ⟨some 7, .mv (.t 1), none⟩,
  ⟨some 8, .bin .sub (.t 6) (.t 7), none⟩,
  ⟨some 9, .call (.c (.clo 175 [])) [.t 4, .t 8], none⟩]
def a159 : AFn := ⟨[false, false], .reg a159_r0 false [], [], []⟩
theorem reads159 : readFn Tryz.prog Tryz.f159 [false, false] [] [] = some a159 := by kernel_rfl
-- spec.MapDo
def a160_r0 : List AOper := [⟨some 3, .box (.t 1), none⟩,
  ⟨some 4, .mv (.c (.emp)), none⟩]
def a160_r1 : List AOper := [⟨some 7, .mv (.t 0), none⟩,
  ⟨some 8, .call (.c (.clo 73 [])) [.t 7], none⟩,
  ⟨some 9, .un .not (.t 8), none⟩,
  ⟨some 10, .mv (.t 9), none⟩,
  ⟨some 11, .ld 3 true (.t 3), some (10, false)⟩,
  ⟨some 12, .call (.c (.clo 57 [])) [.t 11], some (10, false)⟩,
  ⟨some 13, .un .not (.t 12), some (10, false)⟩,
  ⟨some 14, .pick (.t 10) (.c (.b true)) (.t 13), none⟩]
def a160_r2 : List AOper := [⟨some 15, .rowOf 2 [.i .i64 0, .i .i64 0] 0 [], none⟩,
  ⟨some 16, .mv (.t 0), none⟩,
  ⟨some 17, .ap 2 16 (.t 15) (.t 16), none⟩,
  ⟨some 4, .mv (.t 17), none⟩]
def a160_r3 : List AOper := [⟨some 19, .mv (.t 0), none⟩,
  ⟨some 20, .fa 1 (.t 3), none⟩,
  ⟨some 21, .ld 1 false (.t 20), none⟩,
  ⟨some 22, .call (.c (.clo 176 [])) [.t 19, .t 21], none⟩,
  ⟨some 18, .mv (.t 22), none⟩,
  ⟨some 23, .ex (.t 18) 0, none⟩,
  ⟨some 24, .ex (.t 18) 1, none⟩,
  ⟨some 5, .mv (.t 23), none⟩,
  ⟨some 6, .mv (.t 24), none⟩]
def a160_r4 : List AOper := [⟨some 25, .fa 0 (.t 3), none⟩,
  ⟨some 26, .ld 1 false (.t 25), none⟩]
def a160_r5 : List AOper := [⟨some 28, .bin .eql (.t 26) (.c (.i .i64 1)), none⟩,
  ⟨some 27, .mv (.t 28), none⟩]
def a160_r6 : List AOper := [⟨some 29, .mv (.t 0), none⟩,
  ⟨some 30, .fa 1 (.t 3), none⟩,
  ⟨some 31, .ld 1 false (.t 30), none⟩,
  ⟨some 32, .fa 2 (.t 3), none⟩,
  ⟨some 33, .ld 1 false (.t 32), none⟩,
  ⟨some 34, .call (.c (.clo 131 [])) [.t 29, .t 31, .t 33], none⟩,
  ⟨some 4, .mv (.t 34), none⟩]
def a160_r7 : List AOper := [⟨some 36, .bin .eql (.t 26) (.c (.i .i64 2)), none⟩,
  ⟨some 35, .mv (.t 36), none⟩]
def a160_r8 : List AOper := [⟨some 37, .mv (.t 0), none⟩,
  ⟨some 38, .fa 1 (.t 3), none⟩,
  ⟨some 39, .ld 1 false (.t 38), none⟩,
  ⟨some 40, .call (.c (.clo 177 [])) [.t 37, .t 39], none⟩,
  ⟨some 4, .mv (.t 40), none⟩]
def a160_r9 : List AOper := [⟨some 42, .bin .eql (.t 26) (.c (.i .i64 3)), none⟩,
  ⟨some 41, .mv (.t 42), none⟩]
def a160_r10 : List AOper := [⟨some 43, .mv (.t 0), none⟩,
  ⟨some 44, .fa 1 (.t 3), none⟩,
  ⟨some 45, .ld 1 false (.t 44), none⟩,
  ⟨some 46, .mv (.t 5), none⟩,
  ⟨some 47, .fa 2 (.t 3), none⟩,
  ⟨some 48, .ld 1 false (.t 47), none⟩,
  ⟨some 49, .bin .add (.t 46) (.t 48), none⟩,
  ⟨some 50, .call (.c (.clo 163 [])) [.t 49], none⟩,
  ⟨some 51, .call (.c (.clo 131 [])) [.t 43, .t 45, .t 50], none⟩,
  ⟨some 4, .mv (.t 51), none⟩]
def a160_r11 : List AOper := [⟨some 52, .rowOf 2 [.i .i64 0, .i .i64 0] 0 [], none⟩,
  ⟨some 53, .mv (.t 0), none⟩,
  ⟨some 54, .ap 2 16 (.t 52) (.t 53), none⟩,
  ⟨some 4, .mv (.t 54), none⟩]
def a160 : AFn := ⟨[false, false], .seq (.reg a160_r0 false []) (.seq (.seq (.reg a160_r1 false []) (.cond (.t 14) (.seq (.reg a160_r2 false []) (.ret)) (.skip))) (.seq (.reg a160_r3 false []) (.seq (.seq (.reg a160_r4 false []) (.block 0 (.seq (.reg a160_r5 false []) (.cond (.t 27) (.seq (.reg a160_r6 false []) (.ret)) (.seq (.reg a160_r7 false []) (.cond (.t 35) (.seq (.reg a160_r8 false []) (.ret)) (.seq (.reg a160_r9 false []) (.cond (.t 41) (.seq (.reg a160_r10 true [(2, 7)]) (.ret)) (.skip))))))))) (.seq (.reg a160_r11 false []) (.ret))))), [.t 4], []⟩
theorem reads160 : readFn Tryz.prog Tryz.f160 [false, false] [] [] = some a160 := by kernel_rfl
-- spec.l1Over
def a161_r0 : List AOper := [⟨some 4, .mv (.c (.b false)), none⟩]
def a161_r1 : List AOper := [⟨some 6, .mv (.t 1), none⟩,
  ⟨some 7, .bin .add (.t 6) (.c (.i .i64 1)), none⟩,
  ⟨some 5, .mv (.t 7), none⟩]
def a161_r2 : List AOper := [⟨some 8, .mv (.t 5), none⟩,
  ⟨some 9, .mv (.t 0), none⟩,
  ⟨some 10, .len false (.t 9), none⟩,
  ⟨some 11, .bin .lss (.t 8) (.t 10), none⟩]
def a161_r4 : List AOper := [⟨some 14, .mv (.t 0), none⟩,
  ⟨some 15, .mv (.t 5), none⟩,
  ⟨some 16, .ia 3 (.t 14) (.t 15), none⟩,
  ⟨some 17, .ld 3 true (.t 16), none⟩,
  ⟨some 18, .call (.c (.clo 57 [])) [.t 17], none⟩,
  ⟨some 19, .mv (.t 18), none⟩,
  ⟨some 20, .mv (.t 0), some (19, true)⟩,
  ⟨some 21, .mv (.t 5), some (19, true)⟩,
  ⟨some 22, .ia 3 (.t 20) (.t 21), some (19, true)⟩,
  ⟨some 23, .fa 1 (.t 22), some (19, true)⟩,
  ⟨some 24, .ld 1 false (.t 23), some (19, true)⟩,
  ⟨some 25, .mv (.t 0), some (19, true)⟩,
  ⟨some 26, .mv (.t 1), some (19, true)⟩,
  ⟨some 27, .ia 3 (.t 25) (.t 26), some (19, true)⟩,
  ⟨some 28, .fa 1 (.t 27), some (19, true)⟩,
  ⟨some 29, .ld 1 false (.t 28), some (19, true)⟩,
  ⟨some 30, .bin .eql (.t 24) (.t 29), some (19, true)⟩,
  ⟨some 31, .pick (.t 19) (.t 30) (.c (.b false)), none⟩,
  ⟨some 32, .mv (.t 31), none⟩,
  ⟨some 33, .mv (.t 0), some (32, true)⟩,
  ⟨some 34, .mv (.t 5), some (32, true)⟩,
  ⟨some 35, .ia 3 (.t 33) (.t 34), some (32, true)⟩,
  ⟨some 36, .fa 0 (.t 35), some (32, true)⟩,
  ⟨some 37, .ld 1 false (.t 36), some (32, true)⟩,
  ⟨some 38, .bin .eql (.t 37) (.c (.i .i64 1)), some (32, true)⟩,
  ⟨some 39, .mv (.t 38), some (32, true)⟩,
  ⟨some 40, .mv (.t 0), some (39, false)⟩,
  ⟨some 41, .mv (.t 5), some (39, false)⟩,
  ⟨some 42, .ia 3 (.t 40) (.t 41), some (39, false)⟩,
  ⟨some 43, .fa 0 (.t 42), some (39, false)⟩,
  ⟨some 44, .ld 1 false (.t 43), some (39, false)⟩,
  ⟨some 45, .bin .eql (.t 44) (.c (.i .i64 2)), some (39, false)⟩,
  ⟨some 46, .pick (.t 39) (.c (.b true)) (.t 45), some (32, true)⟩,
  ⟨some 47, .pick (.t 32) (.t 46) (.c (.b false)), none⟩]
def a161_r5 : List AOper := [⟨some 4, .mv (.c (.b true)), none⟩]
def a161_r3 : List AOper := [⟨some 12, .mv (.t 5), none⟩,
  ⟨some 13, .bin .add (.t 12) (.c (.i .i64 1)), none⟩,
  ⟨some 5, .mv (.t 13), none⟩]
def a161_l1 : ACode := .seq (.seq (.reg a161_r2 false []) (.cond (.t 11) (.skip) (.exit 0))) (.seq (.block 1 (.seq (.reg a161_r4 true []) (.cond (.t 47) (.seq (.reg a161_r5 false []) (.ret)) (.skip)))) (.reg a161_r3 false []))
def a161_r6 : List AOper := [⟨some 4, .mv (.c (.b false)), none⟩]
def a161 : AFn := ⟨[false, false], .seq (.reg a161_r0 false []) (.seq (.seq (.reg a161_r1 false []) (.block 0 (.loop [] a161_l1))) (.seq (.reg a161_r6 false []) (.ret))), [.t 4], []⟩
theorem reads161 : readFn Tryz.prog Tryz.f161 [false, false] [] [[]] = some a161 := by kernel_rfl
-- spec.l1First
def a162_r0 : List AOper := [⟨some 4, .mv (.c (.i .i64 0)), none⟩]
def a162_r1 : List AOper := [⟨some 5, .mv (.c (.i .i64 0)), none⟩]
def a162_r2 : List AOper := [⟨some 6, .mv (.t 5), none⟩,
  ⟨some 7, .mv (.t 0), none⟩,
  ⟨some 8, .len false (.t 7), none⟩,
  ⟨some 9, .bin .lss (.t 6) (.t 8), none⟩]
def a162_r4 : List AOper := [⟨some 12, .mv (.t 0), none⟩,
  ⟨some 13, .mv (.t 5), none⟩,
  ⟨some 14, .ia 3 (.t 12) (.t 13), none⟩,
  ⟨some 15, .fa 1 (.t 14), none⟩,
  ⟨some 16, .ld 1 false (.t 15), none⟩,
  ⟨some 17, .mv (.t 1), none⟩,
  ⟨some 18, .bin .eql (.t 16) (.t 17), none⟩]
def a162_r5 : List AOper := [⟨some 19, .mv (.t 5), none⟩,
  ⟨some 4, .mv (.t 19), none⟩]
def a162_r3 : List AOper := [⟨some 10, .mv (.t 5), none⟩,
  ⟨some 11, .bin .add (.t 10) (.c (.i .i64 1)), none⟩,
  ⟨some 5, .mv (.t 11), none⟩]
def a162_l1 : ACode := .seq (.seq (.reg a162_r2 false []) (.cond (.t 9) (.skip) (.exit 0))) (.seq (.block 1 (.seq (.reg a162_r4 false []) (.cond (.t 18) (.seq (.reg a162_r5 false []) (.ret)) (.skip)))) (.reg a162_r3 false []))
def a162_r6 : List AOper := [⟨some 4, .mv (.c (.i .i64 (-1))), none⟩]
def a162 : AFn := ⟨[false, false], .seq (.reg a162_r0 false []) (.seq (.seq (.reg a162_r1 false []) (.block 0 (.loop [] a162_l1))) (.seq (.reg a162_r6 false []) (.ret))), [.t 4], []⟩
theorem reads162 : readFn Tryz.prog Tryz.f162 [false, false] [] [[]] = some a162 := by kernel_rfl
-- spec.l1Clamp
def a163_r0 : List AOper := [⟨some 2, .mv (.c (.i .i64 0)), none⟩]
def a163_r1 : List AOper := [⟨some 3, .mv (.t 0), none⟩,
  ⟨some 4, .call (.c (.clo 178 [])) [.t 3, .c (.i .i64 1000000000)], none⟩,
  ⟨some 5, .call (.c (.clo 85 [])) [.t 4, .c (.i .i64 (-1000000000))], none⟩,
  ⟨some 2, .mv (.t 5), none⟩]
def a163 : AFn := ⟨[false], .seq (.reg a163_r0 false []) (.seq (.reg a163_r1 false []) (.ret)), [.t 2], []⟩
theorem reads163 : readFn Tryz.prog Tryz.f163 [false] [] [] = some a163 := by kernel_rfl
-- spec.l4At
def a164_r0 : List AOper := [⟨some 2, .box (.t 0), none⟩,
  ⟨some 4, .mv (.c (.i .i64 0)), none⟩]
def a164_r1 : List AOper := [⟨some 5, .mv (.c (.i .i64 0)), none⟩]
def a164_r2 : List AOper := [⟨some 6, .mv (.t 5), none⟩,
  ⟨some 7, .fa 1 (.t 2), none⟩,
  ⟨some 8, .ld 1 false (.t 7), none⟩,
  ⟨some 9, .len false (.t 8), none⟩,
  ⟨some 10, .bin .lss (.t 6) (.t 9), none⟩,
  ⟨some 11, .mv (.t 10), none⟩,
  ⟨some 12, .fa 1 (.t 2), some (11, true)⟩,
  ⟨some 13, .ld 1 false (.t 12), some (11, true)⟩,
  ⟨some 14, .mv (.t 5), some (11, true)⟩,
  ⟨some 15, .ia 1 (.t 13) (.t 14), some (11, true)⟩,
  ⟨some 16, .ld 1 false (.t 15), some (11, true)⟩,
  ⟨some 17, .mv (.t 1), some (11, true)⟩,
  ⟨some 18, .bin .leq (.t 16) (.t 17), some (11, true)⟩,
  ⟨some 19, .pick (.t 11) (.t 18) (.c (.b false)), none⟩]
def a164_r3 : List AOper := [⟨some 20, .mv (.t 5), none⟩,
  ⟨some 21, .bin .add (.t 20) (.c (.i .i64 1)), none⟩,
  ⟨some 5, .mv (.t 21), none⟩]
def a164_l1 : ACode := .seq (.seq (.reg a164_r2 false []) (.cond (.t 19) (.skip) (.exit 0))) (.block 1 (.reg a164_r3 false []))
def a164_r4 : List AOper := [⟨some 22, .mv (.t 5), none⟩,
  ⟨some 4, .mv (.t 22), none⟩]
def a164 : AFn := ⟨[false, false], .seq (.reg a164_r0 false []) (.seq (.reg a164_r1 false []) (.seq (.block 0 (.loop [] a164_l1)) (.seq (.reg a164_r4 false []) (.ret)))), [.t 4], []⟩
theorem reads164 : readFn Tryz.prog Tryz.f164 [false, false] [] [[]] = some a164 := by kernel_rfl
-- spec.l2Leaf
def a165_r0 : List AOper := [⟨some 3, .box (.t 0), none⟩,
  ⟨some 6, .mv (.c (.i .i64 0)), none⟩]
def a165_r1 : List AOper := [⟨some 8, .fa 1 (.t 3), none⟩,
  ⟨some 9, .ld 1 false (.t 8), none⟩,
  ⟨some 10, .call (.c (.clo 73 [])) [.t 9], none⟩,
  ⟨some 11, .un .not (.t 10), none⟩,
  ⟨some 12, .mv (.t 11), none⟩,
  ⟨some 13, .fa 1 (.t 3), some (12, false)⟩,
  ⟨some 14, .ld 1 false (.t 13), some (12, false)⟩,
  ⟨some 15, .len false (.t 14), some (12, false)⟩,
  ⟨some 16, .bin .gtr (.t 15) (.c (.i .i64 4)), some (12, false)⟩,
  ⟨some 17, .pick (.t 12) (.c (.b true)) (.t 16), none⟩,
  ⟨some 18, .mv (.t 17), none⟩,
  ⟨some 19, .fa 2 (.t 3), some (18, false)⟩,
  ⟨some 20, .ld 1 false (.t 19), some (18, false)⟩,
  ⟨some 21, .len false (.t 20), some (18, false)⟩,
  ⟨some 22, .fa 3 (.t 3), some (18, false)⟩,
  ⟨some 23, .ld 1 false (.t 22), some (18, false)⟩,
  ⟨some 24, .len false (.t 23), some (18, false)⟩,
  ⟨some 25, .bin .add (.t 21) (.t 24), some (18, false)⟩,
  ⟨some 26, .fa 4 (.t 3), some (18, false)⟩,
  ⟨some 27, .ld 1 false (.t 26), some (18, false)⟩,
  ⟨some 28, .len false (.t 27), some (18, false)⟩,
  ⟨some 29, .bin .add (.t 25) (.t 28), some (18, false)⟩,
  ⟨some 30, .bin .gtr (.t 29) (.c (.i .i64 0)), some (18, false)⟩,
  ⟨some 31, .pick (.t 18) (.c (.b true)) (.t 30), none⟩]
def a165_r2 : List AOper := [⟨some 6, .mv (.c (.i .i64 0)), none⟩]
def a165_r3 : List AOper := [⟨some 7, .mv (.c (.i .i64 0)), none⟩]
def a165_r4 : List AOper := [⟨some 32, .mv (.t 7), none⟩,
  ⟨some 33, .fa 1 (.t 3), none⟩,
  ⟨some 34, .ld 1 false (.t 33), none⟩,
  ⟨some 35, .len false (.t 34), none⟩,
  ⟨some 36, .bin .lss (.t 32) (.t 35), none⟩]
def a165_r6 : List AOper := [⟨some 39, .fa 1 (.t 3), none⟩,
  ⟨some 40, .ld 1 false (.t 39), none⟩,
  ⟨some 41, .mv (.t 7), none⟩,
  ⟨some 42, .ia 2 (.t 40) (.t 41), none⟩,
  ⟨some 43, .fa 0 (.t 42), none⟩,
  ⟨some 44, .ld 1 false (.t 43), none⟩,
  ⟨some 45, .mv (.t 1), none⟩,
  ⟨some 46, .mv (.t 2), none⟩,
  ⟨some 47, .bin .sub (.t 46) (.c (.i .i64 1)), none⟩,
  ⟨some 48, .call (.c (.clo 119 [])) [.t 44, .t 45, .t 47], none⟩,
  ⟨some 49, .un .not (.t 48), none⟩]
def a165_r7 : List AOper := [⟨some 6, .mv (.c (.i .i64 0)), none⟩]
def a165_r5 : List AOper := [⟨some 37, .mv (.t 7), none⟩,
  ⟨some 38, .bin .add (.t 37) (.c (.i .i64 1)), none⟩,
  ⟨some 7, .mv (.t 38), none⟩]
def a165_l1 : ACode := .seq (.seq (.reg a165_r4 false []) (.cond (.t 36) (.skip) (.exit 0))) (.seq (.block 1 (.seq (.reg a165_r6 false []) (.cond (.t 49) (.seq (.reg a165_r7 false []) (.ret)) (.skip)))) (.reg a165_r5 false []))
def a165_r8 : List AOper := [⟨some 6, .mv (.c (.i .i64 1)), none⟩]
def a165 : AFn := ⟨[false, false, false], .seq (.reg a165_r0 false []) (.seq (.seq (.reg a165_r1 false []) (.cond (.t 31) (.seq (.reg a165_r2 false []) (.ret)) (.skip))) (.seq (.seq (.reg a165_r3 false []) (.block 0 (.loop [] a165_l1))) (.seq (.reg a165_r8 false []) (.ret)))), [.t 6], []⟩
theorem reads165 : readFn Tryz.prog Tryz.f165 [false, false, false] [] [[]] = some a165 := by kernel_rfl
-- slices.Grow[[]impl.Tree,impl.Tree]
def a173_r0 : List AOper := [⟨some 4, .mv (.c (.emp)), none⟩]
def a173_r1 : List AOper := [⟨some 5, .mv (.t 1), none⟩,
  ⟨some 6, .bin .lss (.t 5) (.c (.i .i64 0)), none⟩]
def a173_r2 : List AOper := [⟨some 7, .bad, none⟩,
  ⟨none, .bad, none⟩]
def a173_r3 : List AOper := [⟨some 8, .mv (.t 1), none⟩,
  ⟨some 9, .mv (.t 0), none⟩,
  ⟨some 10, .cap (.t 9), none⟩,
  ⟨some 11, .mv (.t 0), none⟩,
  ⟨some 12, .len false (.t 11), none⟩,
  ⟨some 13, .bin .sub (.t 10) (.t 12), none⟩,
  ⟨some 14, .bin .sub (.t 8) (.t 13), none⟩,
  ⟨some 1, .mv (.t 14), none⟩]
def a173_r4 : List AOper := [⟨some 15, .mv (.t 1), none⟩,
  ⟨some 16, .bin .gtr (.t 15) (.c (.i .i64 0)), none⟩]
def a173_r5 : List AOper := [⟨some 17, .mv (.t 0), none⟩,
  ⟨some 18, .mv (.t 0), none⟩,
  ⟨some 19, .cap (.t 18), none⟩,
  ⟨some 20, .sl 5 (.t 17) none (some (.t 19)) none, none⟩,
  ⟨some 21, .mv (.t 1), none⟩,
  ⟨some 22, .apz 5 104 [.b false, .emp, .emp, .emp, .emp] (.t 20) (.t 21), none⟩,
  ⟨some 23, .mv (.t 0), none⟩,
  ⟨some 24, .len false (.t 23), none⟩,
  ⟨some 25, .sl 5 (.t 22) none (some (.t 24)) none, none⟩,
  ⟨some 0, .mv (.t 25), none⟩]
def a173_r6 : List AOper := [⟨some 26, .mv (.t 0), none⟩,
  ⟨some 4, .mv (.t 26), none⟩]
def a173 : AFn := ⟨[false, false], .seq (.reg a173_r0 false []) (.seq (.seq (.reg a173_r1 false []) (.cond (.t 6) (.reg a173_r2 false []) (.skip))) (.seq (.seq (.reg a173_r3 false []) (.seq (.reg a173_r4 false []) (.cond (.t 16) (.reg a173_r5 false []) (.skip)))) (.seq (.reg a173_r6 false []) (.ret)))), [.t 4], []⟩
theorem reads173 : readFn Tryz.prog Tryz.f173 [false, false] [] [] = some a173 := by kernel_rfl
-- slices.Grow[[]int,int]
def a174_r0 : List AOper := [⟨some 4, .mv (.c (.emp)), none⟩]
def a174_r1 : List AOper := [⟨some 5, .mv (.t 1), none⟩,
  ⟨some 6, .bin .lss (.t 5) (.c (.i .i64 0)), none⟩]
def a174_r2 : List AOper := [⟨some 7, .bad, none⟩,
  ⟨none, .bad, none⟩]
def a174_r3 : List AOper := [⟨some 8, .mv (.t 1), none⟩,
  ⟨some 9, .mv (.t 0), none⟩,
  ⟨some 10, .cap (.t 9), none⟩,
  ⟨some 11, .mv (.t 0), none⟩,
  ⟨some 12, .len false (.t 11), none⟩,
  ⟨some 13, .bin .sub (.t 10) (.t 12), none⟩,
  ⟨some 14, .bin .sub (.t 8) (.t 13), none⟩,
  ⟨some 1, .mv (.t 14), none⟩]
def a174_r4 : List AOper := [⟨some 15, .mv (.t 1), none⟩,
  ⟨some 16, .bin .gtr (.t 15) (.c (.i .i64 0)), none⟩]
def a174_r5 : List AOper := [⟨some 17, .mv (.t 0), none⟩,
  ⟨some 18, .mv (.t 0), none⟩,
  ⟨some 19, .cap (.t 18), none⟩,
  ⟨some 20, .sl 1 (.t 17) none (some (.t 19)) none, none⟩,
  ⟨some 21, .mv (.t 1), none⟩,
  ⟨some 22, .apz 1 8 [.i .i64 0] (.t 20) (.t 21), none⟩,
  ⟨some 23, .mv (.t 0), none⟩,
  ⟨some 24, .len false (.t 23), none⟩,
  ⟨some 25, .sl 1 (.t 22) none (some (.t 24)) none, none⟩,
  ⟨some 0, .mv (.t 25), none⟩]
def a174_r6 : List AOper := [⟨some 26, .mv (.t 0), none⟩,
  ⟨some 4, .mv (.t 26), none⟩]
def a174 : AFn := ⟨[false, false], .seq (.reg a174_r0 false []) (.seq (.seq (.reg a174_r1 false []) (.cond (.t 6) (.reg a174_r2 false []) (.skip))) (.seq (.seq (.reg a174_r3 false []) (.seq (.reg a174_r4 false []) (.cond (.t 16) (.reg a174_r5 false []) (.skip)))) (.seq (.reg a174_r6 false []) (.ret)))), [.t 4], []⟩
theorem reads174 : readFn Tryz.prog Tryz.f174 [false, false] [] [] = some a174 := by kernel_rfl
-- slices.rotateLeft[impl.Pair]
def a175_r0 : List AOper := [⟨some 4, .mv (.t 0), none⟩,
  ⟨some 5, .mv (.t 1), none⟩,
  ⟨some 6, .sl 2 (.t 4) none (some (.t 5)) none, none⟩,
  ⟨some 7, .call (.c (.clo 183 [])) [.t 6], none⟩]
def a175_r1 : List AOper := [⟨some 8, .mv (.t 0), none⟩,
  ⟨some 9, .mv (.t 1), none⟩,
  ⟨some 10, .sl 2 (.t 8) (some (.t 9)) none none, none⟩,
  ⟨some 11, .call (.c (.clo 183 [])) [.t 10], none⟩]
def a175_r2 : List AOper := [⟨some 12, .mv (.t 0), none⟩,
  ⟨some 13, .call (.c (.clo 183 [])) [.t 12], none⟩]
def a175 : AFn := ⟨[false, false], .seq (.reg a175_r0 false []) (.seq (.reg a175_r1 false []) (.reg a175_r2 false [])), [], []⟩
theorem reads175 : readFn Tryz.prog Tryz.f175 [false, false] [] [] = some a175 := by kernel_rfl
-- spec.MapGet
def a176_r0 : List AOper := [⟨some 4, .mv (.c (.i .i64 0)), none⟩,
  ⟨some 5, .mv (.c (.b false)), none⟩]
def a176_r1 : List AOper := [⟨some 6, .mv (.c (.i .i64 0)), none⟩]
def a176_r2 : List AOper := [⟨some 7, .mv (.t 6), none⟩,
  ⟨some 8, .mv (.t 0), none⟩,
  ⟨some 9, .len false (.t 8), none⟩,
  ⟨some 10, .bin .lss (.t 7) (.t 9), none⟩]
def a176_r4 : List AOper := [⟨some 13, .mv (.t 0), none⟩,
  ⟨some 14, .mv (.t 6), none⟩,
  ⟨some 15, .ia 2 (.t 13) (.t 14), none⟩,
  ⟨some 16, .fa 0 (.t 15), none⟩,
  ⟨some 17, .ld 1 false (.t 16), none⟩,
  ⟨some 18, .mv (.t 1), none⟩,
  ⟨some 19, .bin .eql (.t 17) (.t 18), none⟩]
def a176_r5 : List AOper := [⟨some 20, .mv (.t 0), none⟩,
  ⟨some 21, .mv (.t 6), none⟩,
  ⟨some 22, .ia 2 (.t 20) (.t 21), none⟩,
  ⟨some 23, .fa 1 (.t 22), none⟩,
  ⟨some 24, .ld 1 false (.t 23), none⟩,
  ⟨some 4, .mv (.t 24), none⟩,
  ⟨some 5, .mv (.c (.b true)), none⟩]
def a176_r3 : List AOper := [⟨some 11, .mv (.t 6), none⟩,
  ⟨some 12, .bin .add (.t 11) (.c (.i .i64 1)), none⟩,
  ⟨some 6, .mv (.t 12), none⟩]
def a176_l1 : ACode := .seq (.seq (.reg a176_r2 false []) (.cond (.t 10) (.skip) (.exit 0))) (.seq (.block 1 (.seq (.reg a176_r4 false []) (.cond (.t 19) (.seq (.reg a176_r5 false []) (.ret)) (.skip)))) (.reg a176_r3 false []))
def a176_r6 : List AOper := [⟨some 4, .mv (.c (.i .i64 0)), none⟩,
  ⟨some 5, .mv (.c (.b false)), none⟩]
def a176 : AFn := ⟨[false, false], .seq (.reg a176_r0 false []) (.seq (.seq (.reg a176_r1 false []) (.block 0 (.loop [] a176_l1))) (.seq (.reg a176_r6 false []) (.ret))), [.t 4, .t 5], []⟩
theorem reads176 : readFn Tryz.prog Tryz.f176 [false, false] [] [[]] = some a176 := by kernel_rfl
-- spec.l1Without
def a177_r0 : List AOper := [⟨some 4, .mv (.c (.emp)), none⟩]
def a177_r1 : List AOper := [⟨some 7, .rowOf 2 [.i .i64 0, .i .i64 0] 0 [], none⟩,
  ⟨some 5, .mv (.t 7), none⟩]
def a177_r2 : List AOper := [⟨some 6, .mv (.c (.i .i64 0)), none⟩]
def a177_r3 : List AOper := [⟨some 8, .mv (.t 6), none⟩,
  ⟨some 9, .mv (.t 0), none⟩,
  ⟨some 10, .len false (.t 9), none⟩,
  ⟨some 11, .bin .lss (.t 8) (.t 10), none⟩]
def a177_r5 : List AOper := [⟨some 14, .mv (.t 0), none⟩,
  ⟨some 15, .mv (.t 6), none⟩,
  ⟨some 16, .ia 2 (.t 14) (.t 15), none⟩,
  ⟨some 17, .fa 0 (.t 16), none⟩,
  ⟨some 18, .ld 1 false (.t 17), none⟩,
  ⟨some 19, .mv (.t 1), none⟩,
  ⟨some 20, .bin .neq (.t 18) (.t 19), none⟩]
def a177_r6 : List AOper := [⟨some 21, .mv (.t 5), none⟩,
  ⟨some 22, .mv (.t 0), none⟩,
  ⟨some 23, .mv (.t 6), none⟩,
  ⟨some 24, .ia 2 (.t 22) (.t 23), none⟩,
  ⟨some 25, .ld 2 true (.t 24), none⟩,
  ⟨some 26, .rowOf 2 [.i .i64 0, .i .i64 0] 1 [(0, .t 25)], none⟩,
  ⟨some 27, .ap 2 16 (.t 21) (.t 26), none⟩,
  ⟨some 5, .mv (.t 27), none⟩]
def a177_r4 : List AOper := [⟨some 12, .mv (.t 6), none⟩,
  ⟨some 13, .bin .add (.t 12) (.c (.i .i64 1)), none⟩,
  ⟨some 6, .mv (.t 13), none⟩]
def a177_l1 : ACode := .seq (.seq (.reg a177_r3 false []) (.cond (.t 11) (.skip) (.exit 0))) (.seq (.block 1 (.seq (.reg a177_r5 false []) (.cond (.t 20) (.reg a177_r6 false []) (.skip)))) (.reg a177_r4 false []))
def a177_r7 : List AOper := [⟨some 28, .mv (.t 5), none⟩,
  ⟨some 4, .mv (.t 28), none⟩]
def a177 : AFn := ⟨[false, false], .seq (.reg a177_r0 false []) (.seq (.reg a177_r1 false []) (.seq (.seq (.reg a177_r2 false []) (.block 0 (.loop [] a177_l1))) (.seq (.reg a177_r7 false []) (.ret)))), [.t 4], []⟩
theorem reads177 : readFn Tryz.prog Tryz.f177 [false, false] [] [[]] = some a177 := by kernel_rfl
-- spec.l1Min
def a178_r0 : List AOper := [⟨some 4, .mv (.c (.i .i64 0)), none⟩]
def a178_r1 : List AOper := [⟨some 5, .mv (.t 0), none⟩,
  ⟨some 6, .mv (.t 1), none⟩,
  ⟨some 7, .bin .lss (.t 5) (.t 6), none⟩]
def a178_r2 : List AOper := [⟨some 8, .mv (.t 0), none⟩,
  ⟨some 4, .mv (.t 8), none⟩]
def a178_r3 : List AOper := [⟨some 9, .mv (.t 1), none⟩,
  ⟨some 4, .mv (.t 9), none⟩]
def a178 : AFn := ⟨[false, false], .seq (.reg a178_r0 false []) (.seq (.seq (.reg a178_r1 false []) (.cond (.t 7) (.seq (.reg a178_r2 false []) (.ret)) (.skip))) (.seq (.reg a178_r3 false []) (.ret))), [.t 4], []⟩
theorem reads178 : readFn Tryz.prog Tryz.f178 [false, false] [] [] = some a178 := by kernel_rfl
-- slices.Reverse[[]impl.Pair,impl.Pair]
def a183_r0 : List AOper := [⟨some 4, .mv (.t 0), none⟩,
  ⟨some 5, .len false (.t 4), none⟩,
  ⟨some 6, .bin .sub (.t 5) (.c (.i .i64 1)), none⟩,
  ⟨some 2, .mv (.c (.i .i64 0)), none⟩,
  ⟨some 3, .mv (.t 6), none⟩]
def a183_r1 : List AOper := [⟨some 7, .mv (.t 2), none⟩,
  ⟨some 8, .mv (.t 3), none⟩,
  ⟨some 9, .bin .lss (.t 7) (.t 8), none⟩]
def a183_r3 : List AOper := [⟨some 14, .mv (.t 0), none⟩,
  ⟨some 15, .mv (.t 2), none⟩,
  ⟨some 16, .mv (.t 0), none⟩,
  ⟨some 17, .mv (.t 3), none⟩,
  ⟨some 18, .mv (.t 0), none⟩,
  ⟨some 19, .mv (.t 3), none⟩,
  ⟨some 20, .ia 2 (.t 18) (.t 19), none⟩,
  ⟨some 21, .ld 2 true (.t 20), none⟩,
  ⟨some 22, .mv (.t 0), none⟩,
  ⟨some 23, .mv (.t 2), none⟩,
  ⟨some 24, .ia 2 (.t 22) (.t 23), none⟩,
  ⟨some 25, .ld 2 true (.t 24), none⟩,
  ⟨some 26, .ia 2 (.t 14) (.t 15), none⟩,
  ⟨none, .st 2 (.t 26) (.t 21), none⟩,
  ⟨some 27, .ia 2 (.t 16) (.t 17), none⟩,
  ⟨none, .st 2 (.t 27) (.t 25), none⟩]
def a183_r2 : List AOper := [⟨some 10, .mv (.t 2), none⟩,
  ⟨some 11, .bin .add (.t 10) (.c (.i .i64 1)), none⟩,
  ⟨some 12, .mv (.t 3), none⟩,
  ⟨some 13, .bin .sub (.t 12) (.c (.i .i64 1)), none⟩,
  ⟨some 2, .mv (.t 11), none⟩,
  ⟨some 3, .mv (.t 13), none⟩]
def a183_l1 : ACode := .seq (.seq (.reg a183_r1 false []) (.cond (.t 9) (.skip) (.exit 0))) (.seq (.block 1 (.reg a183_r3 true [])) (.reg a183_r2 false []))
def a183 : AFn := ⟨[false], .seq (.reg a183_r0 false []) (.block 0 (.loop [] a183_l1)), [], []⟩
theorem reads183 : readFn Tryz.prog Tryz.f183 [false] [] [[]] = some a183 := by kernel_rfl
end Go.Proofs.YtjjocahgbmibeaaGreat
