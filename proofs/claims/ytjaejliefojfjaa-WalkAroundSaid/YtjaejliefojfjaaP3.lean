/- A part of the proof: lemmas alone, no statement. -/
import Derived.Test.YtjaejliefojfjaaP2
import Derived.Test.YtjaejliefojfjaaProg
import Derived.KernelRfl
set_option linter.unusedVariables false
set_option linter.unusedSimpArgs false
set_option linter.unnecessarySimpa false
set_option linter.unusedSectionVars false
namespace Go.Proofs
open Go.Ab
/-- waymark/waymarklaw21.WalkAround; loop heads: [[2, 4, 5, 6, 18, 19]] -/
def ac4 : ACode :=
 (.seq
 (.reg [
 ⟨(some 5), (.box (.tmp 0)), none, []⟩,
 ⟨(some 6), (.box (.tmp 1)), none, []⟩,
 ⟨(some 10), (.move (.const (.bool false))), none, []⟩] false [2, 3, 4, 5, 6])
 (.seq
 (.reg [
 ⟨(some 20), (.callF 8 []), none, []⟩,
 ⟨(some 11), (.move (.tmp 20)), none, []⟩] false [2, 3, 4, 5, 6, 11])
 (.seq
 (.seq
 (.reg [
 ⟨(some 21), (.move (.tmp 11)), none, []⟩,
 ⟨(some 22), (.un .not (.tmp 21)), none, []⟩,
 ⟨(some 23), (.move (.tmp 22)), none, []⟩,
 ⟨(some 24), (.load true 2 (.tmp 5)), (some (23, false)), []⟩,
 ⟨(some 25), (.callF 9 [(.tmp 24)]), (some (23, false)), []⟩,
 ⟨(some 26), (.un .not (.tmp 25)), (some (23, false)), []⟩,
 ⟨(some 27), (.pick (.tmp 23) (.const (.bool true)) (.tmp 26)), none, []⟩,
 ⟨(some 28), (.move (.tmp 27)), none, []⟩,
 ⟨(some 29), (.load true 7 (.tmp 6)), (some (28, false)), []⟩,
 ⟨(some 30), (.callF 10 [(.tmp 29)]), (some (28, false)), []⟩,
 ⟨(some 31), (.un .not (.tmp 30)), (some (28, false)), []⟩,
 ⟨(some 32), (.pick (.tmp 28) (.const (.bool true)) (.tmp 31)), none, []⟩,
 ⟨(some 33), (.move (.tmp 32)), none, []⟩,
 ⟨(some 34), (.move (.tmp 2)), (some (33, false)), []⟩,
 ⟨(some 35), (.bin .lss (.tmp 34) (.const (.int .i64 0))), (some (33, false)), []⟩,
 ⟨(some 36), (.pick (.tmp 33) (.const (.bool true)) (.tmp 35)), none, []⟩,
 ⟨(some 37), (.move (.tmp 36)), none, []⟩,
 ⟨(some 38), (.move (.tmp 2)), (some (37, false)), []⟩,
 ⟨(some 39), (.fieldAddr 1 (.tmp 5)), (some (37, false)), []⟩,
 ⟨(some 40), (.load false 1 (.tmp 39)), (some (37, false)), []⟩,
 ⟨(some 41), (.lenS (.tmp 40)), (some (37, false)), []⟩,
 ⟨(some 42), (.bin .geq (.tmp 38) (.tmp 41)), (some (37, false)), []⟩,
 ⟨(some 43), (.pick (.tmp 37) (.const (.bool true)) (.tmp 42)), none, []⟩] false [2, 3, 4, 5, 6, 11, 43])
 (.cond (.tmp 43)
 (.seq
 (.reg [
 ⟨(some 44), (.move (.tmp 11)), none, []⟩,
 ⟨(some 10), (.move (.tmp 44)), none, []⟩] false [10])
 .ret)
 .skip))
 (.seq
 (.reg [
 ⟨(some 46), (.load true 2 (.tmp 5)), none, []⟩,
 ⟨(some 47), (.callF 11 [(.tmp 46)]), none, []⟩,
 ⟨(some 45), (.move (.tmp 47)), none, []⟩,
 ⟨(some 48), (.extract (.tmp 45) 0), none, []⟩,
 ⟨(some 49), (.extract (.tmp 45) 1), none, []⟩,
 ⟨(some 50), (.extract (.tmp 45) 2), none, []⟩,
 ⟨(some 12), (.move (.tmp 48)), none, []⟩,
 ⟨(some 13), (.move (.tmp 49)), none, []⟩,
 ⟨(some 14), (.move (.tmp 50)), none, []⟩] false [2, 3, 4, 5, 6, 12, 14])
 (.seq
 (.seq
 (.reg [
 ⟨(some 51), (.move (.tmp 14)), none, []⟩,
 ⟨(some 52), (.un .not (.tmp 51)), none, []⟩] false [2, 3, 4, 5, 6, 12, 52])
 (.cond (.tmp 52)
 (.seq
 (.reg [
 ⟨(some 10), (.move (.const (.bool true))), none, []⟩] false [10])
 .ret)
 .skip))
 (.seq
 (.reg [
 ⟨(some 54), (.move (.tmp 12)), none, []⟩,
 ⟨(some 55), (.load true 7 (.tmp 6)), none, []⟩,
 ⟨(some 56), (.callF 12 [(.tmp 54), (.tmp 55), (.const (.slice none 0 0)), (.const (.int .i64 4))]), none, []⟩,
 ⟨(some 53), (.move (.tmp 56)), none, []⟩,
 ⟨(some 57), (.extract (.tmp 53) 0), none, []⟩,
 ⟨(some 58), (.extract (.tmp 53) 1), none, []⟩,
 ⟨(some 15), (.move (.tmp 57)), none, []⟩,
 ⟨(some 16), (.move (.tmp 58)), none, []⟩] false [2, 3, 4, 5, 6, 12, 15, 16])
 (.seq
 (.seq
 (.reg [
 ⟨(some 59), (.move (.tmp 16)), none, []⟩,
 ⟨(some 60), (.callF 13 [(.tmp 59)]), none, []⟩,
 ⟨(some 61), (.bin .neq (.tmp 60) (.const (.int .i64 0))), none, []⟩] false [2, 3, 4, 5, 6, 12, 15, 61])
 (.cond (.tmp 61)
 (.seq
 (.reg [
 ⟨(some 10), (.move (.const (.bool true))), none, []⟩] false [10])
 .ret)
 .skip))
 (.seq
 (.reg [
 ⟨(some 62), (.fieldAddr 1 (.tmp 5)), none, []⟩,
 ⟨(some 63), (.load false 1 (.tmp 62)), none, []⟩,
 ⟨(some 64), (.lenS (.tmp 63)), none, []⟩,
 ⟨(some 65), (.makeSlice 1 1 [(.sc (.bool false))] (.tmp 64) (.tmp 64)), none, []⟩,
 ⟨(some 17), (.move (.tmp 65)), none, []⟩] false [2, 3, 4, 5, 6, 12, 15, 17])
 (.seq
 (.reg [
 ⟨(some 66), (.move (.tmp 17)), none, []⟩,
 ⟨(some 67), (.move (.tmp 2)), none, []⟩,
 ⟨(some 68), (.indexAddrS 1 (.tmp 66) (.tmp 67)), none, []⟩,
 ⟨none, (.store 1 (.tmp 68) (.const (.bool true))), none, []⟩] false [2, 3, 4, 5, 6, 12, 15, 17])
 (.seq
 (.reg [
 ⟨(some 69), (.move (.tmp 12)), none, []⟩,
 ⟨(some 70), (.fieldAddr 0 (.tmp 6)), none, []⟩,
 ⟨(some 71), (.load false 1 (.tmp 70)), none, []⟩,
 ⟨(some 72), (.move (.tmp 15)), none, []⟩,
 ⟨(some 73), (.move (.tmp 3)), none, []⟩,
 ⟨(some 74), (.move (.tmp 17)), none, []⟩,
 ⟨(some 75), (.move (.tmp 4)), none, []⟩,
 ⟨(some 76), (.callF 14 [(.tmp 69), (.tmp 71), (.tmp 72), (.tmp 73), (.tmp 74), (.tmp 75), (.const (.int .i64 10))]), none, []⟩,
 ⟨(some 18), (.alloc [.nils, (.sc (.int .i64 0)), (.sc (.int .i64 0)), (.sc (.int .i64 0)), (.sc (.int .i64 0))]), none, []⟩,
 ⟨none, (.store 5 (.tmp 18) (.tmp 76)), none, []⟩] false [2, 4, 5, 6, 18])
 (.seq
 (.seq
 (.reg [
 ⟨(some 19), (.move (.const (.int .i64 0))), none, []⟩] false [2, 4, 5, 6, 18, 19])
 (.block 0
 (.loop
 (.seq
 (.seq
 (.reg [
 ⟨(some 77), (.move (.tmp 19)), none, []⟩,
 ⟨(some 78), (.fieldAddr 0 (.tmp 18)), none, []⟩,
 ⟨(some 79), (.load false 1 (.tmp 78)), none, []⟩,
 ⟨(some 80), (.lenS (.tmp 79)), none, []⟩,
 ⟨(some 81), (.bin .lss (.tmp 77) (.tmp 80)), none, []⟩] false [2, 4, 5, 6, 18, 19, 81])
 (.cond (.tmp 81)
 .skip
 (.exit 0)))
 (.seq
 (.block 1
 (.seq
 (.reg [
 ⟨(some 84), (.fieldAddr 0 (.tmp 18)), none, []⟩,
 ⟨(some 85), (.load false 1 (.tmp 84)), none, []⟩,
 ⟨(some 86), (.move (.tmp 19)), none, []⟩,
 ⟨(some 87), (.indexAddrS 1 (.tmp 85) (.tmp 86)), none, []⟩,
 ⟨(some 88), (.load false 1 (.tmp 87)), none, []⟩,
 ⟨(some 89), (.bin .quo (.tmp 88) (.const (.int .i64 2))), none, []⟩,
 ⟨(some 90), (.move (.tmp 2)), none, []⟩,
 ⟨(some 91), (.bin .eql (.tmp 89) (.tmp 90)), none, []⟩] false [2, 4, 5, 6, 18, 19, 91])
 (.cond (.tmp 91)
 (.seq
 (.reg [
 ⟨(some 10), (.move (.const (.bool false))), none, []⟩] false [10])
 .ret)
 .skip)))
 (.reg [
 ⟨(some 82), (.move (.tmp 19)), none, []⟩,
 ⟨(some 83), (.bin .add (.tmp 82) (.const (.int .i64 1))), none, []⟩,
 ⟨(some 19), (.move (.tmp 83)), none, []⟩] false [2, 4, 5, 6, 18, 19]))))))
 (.seq
 (.seq
 (.reg [
 ⟨(some 92), (.move (.tmp 4)), none, []⟩] false [5, 6, 18, 92])
 (.cond (.tmp 92)
 (.seq
 (.reg [
 ⟨(some 93), (.fieldAddr 3 (.tmp 18)), none, []⟩,
 ⟨(some 94), (.load false 1 (.tmp 93)), none, []⟩,
 ⟨(some 95), (.bin .eql (.tmp 94) (.const (.int .i64 0))), none, []⟩,
 ⟨(some 96), (.move (.tmp 95)), none, []⟩,
 ⟨(some 97), (.fieldAddr 2 (.tmp 18)), (some (96, true)), []⟩,
 ⟨(some 98), (.load false 1 (.tmp 97)), (some (96, true)), []⟩,
 ⟨(some 99), (.bin .eql (.tmp 98) (.const (.int .i64 1))), (some (96, true)), []⟩,
 ⟨(some 100), (.move (.tmp 99)), (some (96, true)), []⟩,
 ⟨(some 101), (.fieldAddr 1 (.tmp 18)), (some (100, true)), []⟩,
 ⟨(some 102), (.load false 1 (.tmp 101)), (some (100, true)), []⟩,
 ⟨(some 103), (.fieldAddr 1 (.tmp 6)), (some (100, true)), []⟩,
 ⟨(some 104), (.load false 1 (.tmp 103)), (some (100, true)), []⟩,
 ⟨(some 105), (.bin .eql (.tmp 102) (.tmp 104)), (some (100, true)), []⟩,
 ⟨(some 106), (.pick (.tmp 100) (.tmp 105) (.const (.bool false))), (some (96, true)), []⟩,
 ⟨(some 107), (.move (.tmp 106)), (some (96, true)), []⟩,
 ⟨(some 108), (.load true 2 (.tmp 5)), (some (107, true)), []⟩,
 ⟨(some 109), (.load true 7 (.tmp 6)), (some (107, true)), []⟩,
 ⟨(some 110), (.fieldAddr 0 (.tmp 18)), (some (107, true)), []⟩,
 ⟨(some 111), (.load false 1 (.tmp 110)), (some (107, true)), []⟩,
 ⟨(some 112), (.callF 15 [(.tmp 108), (.tmp 109), (.const (.slice none 0 0)), (.tmp 111)]), (some (107, true)), []⟩,
 ⟨(some 113), (.pick (.tmp 107) (.tmp 112) (.const (.bool false))), (some (96, true)), []⟩,
 ⟨(some 114), (.move (.tmp 113)), (some (96, true)), []⟩,
 ⟨(some 115), (.fieldAddr 2 (.tmp 18)), (some (114, false)), []⟩,
 ⟨(some 116), (.load false 1 (.tmp 115)), (some (114, false)), []⟩,
 ⟨(some 117), (.bin .eql (.tmp 116) (.const (.int .i64 3))), (some (114, false)), []⟩,
 ⟨(some 118), (.move (.tmp 117)), (some (114, false)), []⟩,
 ⟨(some 119), (.load true 2 (.tmp 5)), (some (118, true)), []⟩,
 ⟨(some 120), (.load true 7 (.tmp 6)), (some (118, true)), []⟩,
 ⟨(some 121), (.fieldAddr 0 (.tmp 18)), (some (118, true)), []⟩,
 ⟨(some 122), (.load false 1 (.tmp 121)), (some (118, true)), []⟩,
 ⟨(some 123), (.callF 15 [(.tmp 119), (.tmp 120), (.const (.slice none 0 0)), (.tmp 122)]), (some (118, true)), []⟩,
 ⟨(some 124), (.un .not (.tmp 123)), (some (118, true)), []⟩,
 ⟨(some 125), (.pick (.tmp 118) (.tmp 124) (.const (.bool false))), (some (114, false)), []⟩,
 ⟨(some 126), (.pick (.tmp 114) (.const (.bool true)) (.tmp 125)), (some (96, true)), []⟩,
 ⟨(some 127), (.pick (.tmp 96) (.tmp 126) (.const (.bool false))), none, []⟩,
 ⟨(some 10), (.move (.tmp 127)), none, []⟩] false [10])
 .ret)
 .skip))
 (.seq
 (.seq
 (.reg [
 ⟨(some 128), (.fieldAddr 2 (.tmp 18)), none, []⟩,
 ⟨(some 129), (.load false 1 (.tmp 128)), none, []⟩] false [6, 18, 129])
 (.block 2
 (.seq
 (.reg [
 ⟨(some 131), (.bin .eql (.tmp 129) (.const (.int .i64 1))), none, []⟩,
 ⟨(some 130), (.move (.tmp 131)), none, []⟩] false [6, 18, 129, 130])
 (.cond (.tmp 130)
 (.seq
 (.reg [
 ⟨(some 132), (.fieldAddr 1 (.tmp 18)), none, []⟩,
 ⟨(some 133), (.load false 1 (.tmp 132)), none, []⟩,
 ⟨(some 134), (.fieldAddr 1 (.tmp 6)), none, []⟩,
 ⟨(some 135), (.load false 1 (.tmp 134)), none, []⟩,
 ⟨(some 136), (.bin .eql (.tmp 133) (.tmp 135)), none, []⟩,
 ⟨(some 10), (.move (.tmp 136)), none, []⟩] false [10])
 .ret)
 (.seq
 (.reg [
 ⟨(some 138), (.bin .eql (.tmp 129) (.const (.int .i64 3))), none, []⟩,
 ⟨(some 137), (.move (.tmp 138)), none, []⟩] false [137])
 (.cond (.tmp 137)
 (.seq
 (.reg [
 ⟨(some 10), (.move (.const (.bool true))), none, []⟩] false [10])
 .ret)
 .skip))))))
 (.seq
 (.reg [
 ⟨(some 10), (.move (.const (.bool false))), none, []⟩] false [10])
 .ret))))))))))))))
-- simp set: ac4
theorem isF4 : IsFunc Try.prog 4 5 ac4 [.tmp 10] := isFunc_of _ [(0, [2, 3, 4, 5, 6]), (1, [2, 3, 4, 5, 6, 11]), (2, [2, 3, 4, 5, 6, 11, 43]), (3, [10]), (4, [2, 3, 4, 5, 6, 12, 14]), (5, [2, 3, 4, 5, 6, 12, 52]), (6, [10]), (7, [2, 3, 4, 5, 6, 12, 15, 16]), (8, [2, 3, 4, 5, 6, 12, 15, 61]), (9, [10]), (10, [2, 3, 4, 5, 6, 12, 15, 17]), (11, [2, 3, 4, 5, 6, 12, 15, 17]), (12, [2, 4, 5, 6, 18]), (13, [2, 4, 5, 6, 18, 19]), (14, [2, 4, 5, 6, 18, 19, 81]), (16, [2, 4, 5, 6, 18, 19, 91]), (17, [10]), (15, [2, 4, 5, 6, 18, 19]), (18, [5, 6, 18, 92]), (19, [10]), (20, [6, 18, 129]), (21, [6, 18, 129, 130]), (22, [10]), (23, [137]), (24, [10]), (25, [10])] Try.func4 (by kernel_rfl)
/-- waymark/waymarklaw21.alive; loop heads: [] -/
def ac8 : ACode :=
 (.seq
 (.reg [
 ⟨(some 0), (.move (.const (.bool false))), none, []⟩] false [])
 (.seq
 (.reg [
 ⟨(some 7), (.build [(.sc (.int .i64 0)), (.sc (.int .i64 0)), (.sc (.int .i64 0)), (.sc (.int .i64 0))] [(1, 1, (.const (.int .i64 1))), (2, 1, (.const (.int .i64 7)))]), none, []⟩,
 ⟨(some 8), (.buildSlice 4 1 [(.sc (.int .i64 0)), (.sc (.int .i64 0)), (.sc (.int .i64 0)), (.sc (.int .i64 0))] [(0, (.tmp 7))]), none, []⟩,
 ⟨(some 9), (.build [(.sc (.int .i64 0)), .nils] [(0, 1, (.const (.int .i64 2))), (1, 1, (.tmp 8))]), none, []⟩,
 ⟨(some 10), (.callF 11 [(.tmp 9)]), none, []⟩,
 ⟨(some 6), (.move (.tmp 10)), none, []⟩,
 ⟨(some 11), (.extract (.tmp 6) 0), none, []⟩,
 ⟨(some 12), (.extract (.tmp 6) 1), none, []⟩,
 ⟨(some 13), (.extract (.tmp 6) 2), none, []⟩,
 ⟨(some 1), (.move (.tmp 11)), none, []⟩,
 ⟨(some 2), (.move (.tmp 12)), none, []⟩,
 ⟨(some 3), (.move (.tmp 13)), none, []⟩] false [1, 3])
 (.seq
 (.reg [
 ⟨(some 14), (.move (.tmp 1)), none, []⟩,
 ⟨(some 15), (.callF 14 [(.tmp 14), (.const (.int .i64 0)), (.const (.slice none 0 0)), (.const (.int .i64 5)), (.const (.slice none 0 0)), (.const (.bool false)), (.const (.int .i64 3))]), none, []⟩,
 ⟨(some 4), (.alloc [.nils, (.sc (.int .i64 0)), (.sc (.int .i64 0)), (.sc (.int .i64 0)), (.sc (.int .i64 0))]), none, []⟩,
 ⟨none, (.store 5 (.tmp 4) (.tmp 15)), none, []⟩] false [1, 3, 4])
 (.seq
 (.reg [
 ⟨(some 16), (.move (.tmp 1)), none, []⟩,
 ⟨(some 17), (.build [(.sc (.bool false)), (.sc (.int .i64 0))] [(1, 1, (.const (.int .i64 1)))]), none, []⟩,
 ⟨(some 18), (.buildSlice 2 1 [(.sc (.bool false)), (.sc (.int .i64 0))] [(0, (.tmp 17))]), none, []⟩,
 ⟨(some 19), (.callF 14 [(.tmp 16), (.const (.int .i64 0)), (.tmp 18), (.const (.int .i64 5)), (.const (.slice none 0 0)), (.const (.bool false)), (.const (.int .i64 3))]), none, []⟩,
 ⟨(some 5), (.alloc [.nils, (.sc (.int .i64 0)), (.sc (.int .i64 0)), (.sc (.int .i64 0)), (.sc (.int .i64 0))]), none, []⟩,
 ⟨none, (.store 5 (.tmp 5) (.tmp 19)), none, []⟩] false [3, 4, 5])
 (.seq
 (.reg [
 ⟨(some 20), (.move (.tmp 3)), none, []⟩,
 ⟨(some 21), (.move (.tmp 20)), none, []⟩,
 ⟨(some 22), (.fieldAddr 2 (.tmp 4)), (some (21, true)), []⟩,
 ⟨(some 23), (.load false 1 (.tmp 22)), (some (21, true)), []⟩,
 ⟨(some 24), (.bin .eql (.tmp 23) (.const (.int .i64 1))), (some (21, true)), []⟩,
 ⟨(some 25), (.pick (.tmp 21) (.tmp 24) (.const (.bool false))), none, []⟩,
 ⟨(some 26), (.move (.tmp 25)), none, []⟩,
 ⟨(some 27), (.fieldAddr 1 (.tmp 4)), (some (26, true)), []⟩,
 ⟨(some 28), (.load false 1 (.tmp 27)), (some (26, true)), []⟩,
 ⟨(some 29), (.bin .eql (.tmp 28) (.const (.int .i64 0))), (some (26, true)), []⟩,
 ⟨(some 30), (.pick (.tmp 26) (.tmp 29) (.const (.bool false))), none, []⟩,
 ⟨(some 31), (.move (.tmp 30)), none, []⟩,
 ⟨(some 32), (.fieldAddr 2 (.tmp 5)), (some (31, true)), []⟩,
 ⟨(some 33), (.load false 1 (.tmp 32)), (some (31, true)), []⟩,
 ⟨(some 34), (.bin .eql (.tmp 33) (.const (.int .i64 1))), (some (31, true)), []⟩,
 ⟨(some 35), (.pick (.tmp 31) (.tmp 34) (.const (.bool false))), none, []⟩,
 ⟨(some 36), (.move (.tmp 35)), none, []⟩,
 ⟨(some 37), (.fieldAddr 1 (.tmp 5)), (some (36, true)), []⟩,
 ⟨(some 38), (.load false 1 (.tmp 37)), (some (36, true)), []⟩,
 ⟨(some 39), (.bin .eql (.tmp 38) (.const (.int .i64 1))), (some (36, true)), []⟩,
 ⟨(some 40), (.pick (.tmp 36) (.tmp 39) (.const (.bool false))), none, []⟩,
 ⟨(some 41), (.move (.tmp 40)), none, []⟩,
 ⟨(some 42), (.fieldAddr 0 (.tmp 5)), (some (41, true)), []⟩,
 ⟨(some 43), (.load false 1 (.tmp 42)), (some (41, true)), []⟩,
 ⟨(some 44), (.lenS (.tmp 43)), (some (41, true)), []⟩,
 ⟨(some 45), (.bin .eql (.tmp 44) (.const (.int .i64 1))), (some (41, true)), []⟩,
 ⟨(some 46), (.pick (.tmp 41) (.tmp 45) (.const (.bool false))), none, []⟩,
 ⟨(some 0), (.move (.tmp 46)), none, []⟩] false [0])
 .ret)))))
-- simp set: ac8
theorem isF8 : IsFunc Try.prog 8 0 ac8 [.tmp 0] := isFunc_of _ [(1, [1, 3]), (2, [1, 3, 4]), (3, [3, 4, 5]), (4, [0])] Try.func8 (by kernel_rfl)
/-- waymark/waymarklaw15.Small; loop heads: [] -/
def ac9 : ACode :=
 (.seq
 (.reg [
 ⟨(some 1), (.box (.tmp 0)), none, []⟩,
 ⟨(some 2), (.move (.const (.bool false))), none, []⟩] false [1])
 (.seq
 (.reg [
 ⟨(some 3), (.fieldAddr 0 (.tmp 1)), none, []⟩,
 ⟨(some 4), (.load false 1 (.tmp 3)), none, []⟩,
 ⟨(some 5), (.bin .leq (.tmp 4) (.const (.int .i64 10))), none, []⟩,
 ⟨(some 6), (.move (.tmp 5)), none, []⟩,
 ⟨(some 7), (.fieldAddr 1 (.tmp 1)), (some (6, true)), []⟩,
 ⟨(some 8), (.load false 1 (.tmp 7)), (some (6, true)), []⟩,
 ⟨(some 9), (.lenS (.tmp 8)), (some (6, true)), []⟩,
 ⟨(some 10), (.bin .leq (.tmp 9) (.const (.int .i64 16))), (some (6, true)), []⟩,
 ⟨(some 11), (.pick (.tmp 6) (.tmp 10) (.const (.bool false))), none, []⟩,
 ⟨(some 2), (.move (.tmp 11)), none, []⟩] false [2])
 .ret))
-- simp set: ac9
theorem isF9 : IsFunc Try.prog 9 1 ac9 [.tmp 2] := isFunc_of _ [(0, [1]), (1, [2])] Try.func9 (by kernel_rfl)
/-- waymark/waymarklaw8.Few; loop heads: [] -/
def ac10 : ACode :=
 (.seq
 (.reg [
 ⟨(some 1), (.box (.tmp 0)), none, []⟩,
 ⟨(some 2), (.move (.const (.bool false))), none, []⟩] false [1])
 (.seq
 (.reg [
 ⟨(some 3), (.fieldAddr 3 (.tmp 1)), none, []⟩,
 ⟨(some 4), (.load false 1 (.tmp 3)), none, []⟩,
 ⟨(some 5), (.lenS (.tmp 4)), none, []⟩,
 ⟨(some 6), (.bin .leq (.tmp 5) (.const (.int .i64 20))), none, []⟩,
 ⟨(some 7), (.move (.tmp 6)), none, []⟩,
 ⟨(some 8), (.fieldAddr 4 (.tmp 1)), (some (7, true)), []⟩,
 ⟨(some 9), (.load false 1 (.tmp 8)), (some (7, true)), []⟩,
 ⟨(some 10), (.lenS (.tmp 9)), (some (7, true)), []⟩,
 ⟨(some 11), (.bin .leq (.tmp 10) (.const (.int .i64 60))), (some (7, true)), []⟩,
 ⟨(some 12), (.pick (.tmp 7) (.tmp 11) (.const (.bool false))), none, []⟩,
 ⟨(some 13), (.move (.tmp 12)), none, []⟩,
 ⟨(some 14), (.fieldAddr 5 (.tmp 1)), (some (13, true)), []⟩,
 ⟨(some 15), (.load false 1 (.tmp 14)), (some (13, true)), []⟩,
 ⟨(some 16), (.lenS (.tmp 15)), (some (13, true)), []⟩,
 ⟨(some 17), (.bin .leq (.tmp 16) (.const (.int .i64 60))), (some (13, true)), []⟩,
 ⟨(some 18), (.pick (.tmp 13) (.tmp 17) (.const (.bool false))), none, []⟩,
 ⟨(some 19), (.move (.tmp 18)), none, []⟩,
 ⟨(some 20), (.fieldAddr 6 (.tmp 1)), (some (19, true)), []⟩,
 ⟨(some 21), (.load false 1 (.tmp 20)), (some (19, true)), []⟩,
 ⟨(some 22), (.lenS (.tmp 21)), (some (19, true)), []⟩,
 ⟨(some 23), (.bin .leq (.tmp 22) (.const (.int .i64 60))), (some (19, true)), []⟩,
 ⟨(some 24), (.pick (.tmp 19) (.tmp 23) (.const (.bool false))), none, []⟩,
 ⟨(some 2), (.move (.tmp 24)), none, []⟩] false [2])
 .ret))
-- simp set: ac10
theorem isF10 : IsFunc Try.prog 10 1 ac10 [.tmp 2] := isFunc_of _ [(0, [1]), (1, [2])] Try.func10 (by kernel_rfl)
/-- waymark/waymarklaw16.Tables; loop heads: [] -/
def ac11 : ACode :=
 (.seq
 (.reg [
 ⟨(some 1), (.box (.tmp 0)), none, []⟩,
 ⟨(some 2), (.move (.const (.pointer none))), none, []⟩,
 ⟨(some 3), (.move (.const (.pointer none))), none, []⟩,
 ⟨(some 4), (.move (.const (.bool false))), none, []⟩] false [1])
 (.seq
 (.reg [
 ⟨(some 10), (.load true 2 (.tmp 1)), none, []⟩,
 ⟨(some 11), (.callF 19 [(.tmp 10)]), none, []⟩,
 ⟨(some 9), (.move (.tmp 11)), none, []⟩,
 ⟨(some 12), (.extract (.tmp 9) 0), none, []⟩,
 ⟨(some 13), (.extract (.tmp 9) 1), none, []⟩,
 ⟨(some 5), (.move (.tmp 12)), none, []⟩,
 ⟨(some 6), (.move (.tmp 13)), none, []⟩] false [1, 5])
 (.seq
 (.reg [
 ⟨(some 15), (.load true 2 (.tmp 1)), none, []⟩,
 ⟨(some 16), (.callF 20 [(.tmp 15)]), none, []⟩,
 ⟨(some 14), (.move (.tmp 16)), none, []⟩,
 ⟨(some 17), (.extract (.tmp 14) 0), none, []⟩,
 ⟨(some 18), (.extract (.tmp 14) 1), none, []⟩,
 ⟨(some 7), (.move (.tmp 17)), none, []⟩,
 ⟨(some 8), (.move (.tmp 18)), none, []⟩] false [5, 7, 8])
 (.seq
 (.reg [
 ⟨(some 19), (.move (.tmp 5)), none, []⟩,
 ⟨(some 20), (.move (.tmp 7)), none, []⟩,
 ⟨(some 21), (.move (.tmp 8)), none, []⟩,
 ⟨(some 22), (.bin .eql (.tmp 21) (.const (.int .i64 0))), none, []⟩,
 ⟨(some 23), (.move (.tmp 22)), none, []⟩,
 ⟨(some 24), (.move (.tmp 5)), (some (23, true)), []⟩,
 ⟨(some 25), (.eqPtr true (.tmp 24) (.const (.pointer none))), (some (23, true)), []⟩,
 ⟨(some 26), (.pick (.tmp 23) (.tmp 25) (.const (.bool false))), none, []⟩,
 ⟨(some 2), (.move (.tmp 19)), none, []⟩,
 ⟨(some 3), (.move (.tmp 20)), none, []⟩,
 ⟨(some 4), (.move (.tmp 26)), none, []⟩] false [2, 3, 4])
 .ret))))
-- simp set: ac11
theorem isF11 : IsFunc Try.prog 11 1 ac11 [.tmp 2, .tmp 3, .tmp 4] := isFunc_of _ [(0, [1]), (1, [1, 5]), (2, [5, 7, 8]), (3, [2, 3, 4])] Try.func11 (by kernel_rfl)
/-- waymark/compile.List; loop heads: [[12, 13, 17, 55, 56, 57], [12, 13, 17, 19, 55, 56, 57, 63, 64, 65]] -/
def ac12 : ACode :=
 (.seq
 (.reg [
 ⟨(some 5), (.box (.tmp 1)), none, []⟩,
 ⟨(some 8), (.move (.const (.slice none 0 0))), none, []⟩,
 ⟨(some 9), (.move (.const (.int .i64 0))), none, []⟩] false [0, 2, 3, 5])
 (.seq
 (.reg [
 ⟨(some 23), (.move (.tmp 0)), none, []⟩,
 ⟨(some 24), (.load true 7 (.tmp 5)), none, []⟩,
 ⟨(some 25), (.move (.tmp 2)), none, []⟩,
 ⟨(some 26), (.callF 21 [(.tmp 23), (.tmp 24), (.tmp 25)]), none, []⟩,
 ⟨(some 22), (.move (.tmp 26)), none, []⟩,
 ⟨(some 27), (.extract (.tmp 22) 0), none, []⟩,
 ⟨(some 28), (.extract (.tmp 22) 1), none, []⟩,
 ⟨(some 10), (.move (.tmp 27)), none, []⟩,
 ⟨(some 11), (.move (.tmp 28)), none, []⟩] false [3, 5, 10, 11])
 (.seq
 (.seq
 (.reg [
 ⟨(some 29), (.move (.tmp 11)), none, []⟩,
 ⟨(some 30), (.bin .neq (.tmp 29) (.const (.int .i64 0))), none, []⟩] false [3, 5, 10, 11, 30])
 (.cond (.tmp 30)
 (.seq
 (.reg [
 ⟨(some 31), (.move (.tmp 11)), none, []⟩,
 ⟨(some 8), (.move (.const (.slice none 0 0))), none, []⟩,
 ⟨(some 9), (.move (.tmp 31)), none, []⟩] false [8, 9])
 .ret)
 .skip))
 (.seq
 (.reg [
 ⟨(some 32), (.move (.tmp 10)), none, []⟩,
 ⟨(some 33), (.load true 7 (.tmp 5)), none, []⟩,
 ⟨(some 34), (.callF 22 [(.tmp 33)]), none, []⟩,
 ⟨(some 35), .makeMap, none, []⟩,
 ⟨(some 36), (.build [.nilp, (.sc (.int .i64 0)), (.sc (.int .i64 0)), .nilm] [(0, 1, (.tmp 32)), (1, 2, (.tmp 34)), (3, 1, (.tmp 35))]), none, []⟩,
 ⟨(some 37), (.box (.tmp 36)), none, []⟩,
 ⟨(some 12), (.move (.tmp 37)), none, []⟩] false [3, 5, 12])
 (.seq
 (.reg [
 ⟨(some 38), (.load true 7 (.tmp 5)), none, []⟩,
 ⟨(some 39), (.callF 23 [(.tmp 38)]), none, []⟩,
 ⟨(some 13), (.alloc [(.sc (.int .i64 0)), (.sc (.int .i64 0))]), none, []⟩,
 ⟨none, (.store 2 (.tmp 13) (.tmp 39)), none, []⟩] false [3, 12, 13])
 (.seq
 (.reg [
 ⟨(some 41), (.move (.tmp 12)), none, []⟩,
 ⟨(some 42), (.load true 2 (.tmp 13)), none, []⟩,
 ⟨(some 43), (.move (.tmp 3)), none, []⟩,
 ⟨(some 44), (.minmax false [(.tmp 43), (.const (.int .i64 10))]), none, []⟩,
 ⟨(some 45), (.minmax true [(.const (.int .i64 0)), (.tmp 44)]), none, []⟩,
 ⟨(some 46), (.callF 24 [(.tmp 41), (.tmp 42), (.tmp 45)]), none, []⟩,
 ⟨(some 40), (.move (.tmp 46)), none, []⟩,
 ⟨(some 47), (.extract (.tmp 40) 0), none, []⟩,
 ⟨(some 48), (.extract (.tmp 40) 1), none, []⟩,
 ⟨(some 14), (.move (.tmp 47)), none, []⟩,
 ⟨(some 15), (.move (.tmp 48)), none, []⟩] false [12, 13, 14, 15])
 (.seq
 (.seq
 (.reg [
 ⟨(some 49), (.move (.tmp 15)), none, []⟩,
 ⟨(some 50), (.un .not (.tmp 49)), none, []⟩] false [12, 13, 14, 50])
 (.cond (.tmp 50)
 (.seq
 (.reg [
 ⟨(some 8), (.move (.const (.slice none 0 0))), none, []⟩,
 ⟨(some 9), (.move (.const (.int .i64 9))), none, []⟩] false [8, 9])
 .ret)
 .skip))
 (.seq
 (.reg [
 ⟨(some 51), (.move (.tmp 12)), none, []⟩,
 ⟨(some 52), (.move (.tmp 14)), none, []⟩,
 ⟨(some 53), (.callF 25 [(.tmp 51), (.tmp 52)]), none, []⟩,
 ⟨(some 16), (.move (.tmp 53)), none, []⟩] false [12, 13, 16])
 (.seq
 (.reg [
 ⟨(some 17), (.move (.const (.slice none 0 0))), none, []⟩] false [12, 13, 16, 17])
 (.seq
 (.seq
 (.reg [
 ⟨(some 54), (.move (.tmp 16)), none, []⟩,
 ⟨(some 55), (.slice 1 (.tmp 54) (some (.const (.int .i64 1))) none none), none, []⟩,
 ⟨(some 56), (.lenS (.tmp 55)), none, []⟩,
 ⟨(some 57), (.move (.const (.int .i64 0))), none, []⟩] false [12, 13, 17, 55, 56, 57])
 (.block 0
 (.loop
 (.seq
 (.reg [
 ⟨(some 58), (.bin .lss (.tmp 57) (.tmp 56)), none, []⟩] false [12, 13, 17, 55, 56, 57, 58])
 (.seq
 (.cond (.tmp 58)
 .skip
 (.exit 0))
 (.seq
 (.block 1
 (.seq
 (.reg [
 ⟨(some 59), (.indexAddrS 1 (.tmp 55) (.tmp 57)), none, []⟩,
 ⟨(some 60), (.load false 1 (.tmp 59)), none, []⟩,
 ⟨(some 19), (.move (.tmp 60)), none, []⟩] false [12, 13, 17, 19, 55, 56, 57])
 (.seq
 (.reg [
 ⟨(some 61), (.move (.tmp 12)), none, []⟩,
 ⟨(some 62), (.load true 2 (.tmp 13)), none, []⟩,
 ⟨(some 63), (.callF 26 [(.tmp 61), (.tmp 62)]), none, []⟩,
 ⟨(some 64), (.lenS (.tmp 63)), none, []⟩,
 ⟨(some 65), (.move (.const (.int .i64 0))), none, []⟩] false [12, 13, 17, 19, 55, 56, 57, 63, 64, 65])
 (.block 2
 (.loop
 (.seq
 (.reg [
 ⟨(some 66), (.bin .lss (.tmp 65) (.tmp 64)), none, []⟩] false [12, 13, 17, 19, 55, 56, 57, 63, 64, 65, 66])
 (.seq
 (.cond (.tmp 66)
 .skip
 (.exit 2))
 (.seq
 (.block 3
 (.seq
 (.reg [
 ⟨(some 67), (.indexAddrS 4 (.tmp 63) (.tmp 65)), none, []⟩,
 ⟨(some 68), (.load true 4 (.tmp 67)), none, []⟩,
 ⟨(some 21), (.alloc [(.sc (.bool false)), (.sc (.int .i64 0)), (.sc (.int .i64 0)), (.sc (.int .i64 0))]), none, []⟩,
 ⟨none, (.store 4 (.tmp 21) (.tmp 68)), none, []⟩] false [12, 13, 17, 19, 21, 55, 56, 57, 63, 64, 65])
 (.seq
 (.reg [
 ⟨(some 69), (.move (.tmp 19)), none, []⟩,
 ⟨(some 70), (.fieldAddr 2 (.tmp 21)), none, []⟩,
 ⟨(some 71), (.load true 2 (.tmp 70)), none, []⟩,
 ⟨(some 72), (.lookup false true [0, 0] (.sc (.bool false)) (.tmp 69) (.tmp 71)), none, []⟩] false [12, 13, 17, 19, 21, 55, 56, 57, 63, 64, 65, 72])
 (.cond (.tmp 72)
 (.seq
 (.reg [
 ⟨(some 73), (.move (.tmp 17)), none, []⟩,
 ⟨(some 74), (.fieldAddr 0 (.tmp 21)), none, []⟩,
 ⟨(some 75), (.load true 2 (.tmp 74)), none, []⟩,
 ⟨(some 76), (.buildSlice 2 1 [(.sc (.bool false)), (.sc (.int .i64 0))] [(0, (.tmp 75))]), none, []⟩,
 ⟨(some 77), (.append 2 16 [(.sc (.bool false)), (.sc (.int .i64 0))] (.tmp 73) (.tmp 76)), none, []⟩,
 ⟨(some 17), (.move (.tmp 77)), none, []⟩] false [12, 13, 17, 21, 55, 56, 57])
 (.seq
 (.reg [
 ⟨(some 78), (.fieldAddr 2 (.tmp 21)), none, []⟩,
 ⟨(some 79), (.load true 2 (.tmp 78)), none, []⟩,
 ⟨none, (.store 2 (.tmp 13) (.tmp 79)), none, []⟩] false [12, 13, 17, 55, 56, 57])
 (.exit 2)))
 .skip))))
 (.reg [
 ⟨(some 80), (.bin .add (.tmp 65) (.const (.int .i64 1))), none, []⟩,
 ⟨(some 65), (.move (.tmp 80)), none, []⟩] false [12, 13, 17, 19, 55, 56, 57, 63, 64, 65])))))))))
 (.reg [
 ⟨(some 81), (.bin .add (.tmp 57) (.const (.int .i64 1))), none, []⟩,
 ⟨(some 57), (.move (.tmp 81)), none, []⟩] false [12, 13, 17, 55, 56, 57])))))))
 (.seq
 (.reg [
 ⟨(some 82), (.move (.tmp 17)), none, []⟩,
 ⟨(some 8), (.move (.tmp 82)), none, []⟩,
 ⟨(some 9), (.move (.const (.int .i64 0))), none, []⟩] false [8, 9])
 .ret)))))))))))
-- simp set: ac12
theorem isF12 : IsFunc Try.prog 12 4 ac12 [.tmp 8, .tmp 9] := isFunc_of _ [(0, [0, 2, 3, 5]), (1, [3, 5, 10, 11]), (2, [3, 5, 10, 11, 30]), (3, [8, 9]), (4, [3, 5, 12]), (5, [3, 12, 13]), (6, [12, 13, 14, 15]), (7, [12, 13, 14, 50]), (8, [8, 9]), (9, [12, 13, 16]), (10, [12, 13, 16, 17]), (11, [12, 13, 17, 55, 56, 57]), (12, [12, 13, 17, 55, 56, 57, 58]), (13, [12, 13, 17, 19, 55, 56, 57]), (14, [12, 13, 17, 19, 55, 56, 57, 63, 64, 65]), (15, [12, 13, 17, 19, 55, 56, 57, 63, 64, 65, 66]), (16, [12, 13, 17, 19, 21, 55, 56, 57, 63, 64, 65]), (17, [12, 13, 17, 19, 21, 55, 56, 57, 63, 64, 65, 72]), (18, [12, 13, 17, 21, 55, 56, 57]), (19, [12, 13, 17, 55, 56, 57]), (20, [12, 13, 17, 19, 55, 56, 57, 63, 64, 65]), (21, [12, 13, 17, 55, 56, 57]), (22, [8, 9])] Try.func12 (by kernel_rfl)
/-- waymark/waymarklaw21.num; loop heads: [] -/
def ac13 : ACode :=
 (.seq
 (.reg [
 ⟨(some 2), (.move (.const (.int .i64 0))), none, []⟩] false [0])
 (.seq
 (.reg [
 ⟨(some 3), (.move (.tmp 0)), none, []⟩,
 ⟨(some 2), (.move (.tmp 3)), none, []⟩] false [2])
 .ret))
-- simp set: ac13
theorem isF13 : IsFunc Try.prog 13 1 ac13 [.tmp 2] := isFunc_of _ [(0, [0]), (1, [2])] Try.func13 (by kernel_rfl)
/-- waymark/walk.Run; loop heads: [[14, 16]] -/
def ac14 : ACode :=
 (.seq
 (.reg [
 ⟨(some 14), (.alloc [.nils, (.sc (.int .i64 0)), (.sc (.int .i64 0)), (.sc (.int .i64 0)), (.sc (.int .i64 0))]), none, []⟩] false [0, 1, 2, 3, 4, 5, 6, 14])
 (.seq
 (.reg [
 ⟨(some 17), (.move (.tmp 0)), none, []⟩,
 ⟨(some 18), (.callF 27 [(.tmp 17)]), none, []⟩,
 ⟨(some 15), (.alloc [(.sc (.int .i64 0)), .nils]), none, []⟩,
 ⟨none, (.store 2 (.tmp 15) (.tmp 18)), none, []⟩] false [0, 1, 2, 3, 4, 5, 6, 14, 15])
 (.seq
 (.seq
 (.reg [
 ⟨(some 19), (.load true 2 (.tmp 15)), none, []⟩,
 ⟨(some 20), (.move (.tmp 1)), none, []⟩,
 ⟨(some 21), (.callF 28 [(.tmp 19), (.tmp 20)]), none, []⟩,
 ⟨(some 22), (.un .not (.tmp 21)), none, []⟩] false [0, 1, 2, 3, 4, 5, 6, 14, 15, 22])
 (.cond (.tmp 22)
 (.seq
 (.reg [
 ⟨(some 23), (.build [.nils, (.sc (.int .i64 0)), (.sc (.int .i64 0)), (.sc (.int .i64 0)), (.sc (.int .i64 0))] [(1, 1, (.const (.int .i64 (-1)))), (2, 1, (.const (.int .i64 4)))]), none, []⟩,
 ⟨none, (.store 5 (.tmp 14) (.tmp 23)), none, []⟩] false [14])
 .ret)
 .skip))
 (.seq
 (.reg [
 ⟨(some 24), (.move (.tmp 0)), none, []⟩,
 ⟨(some 25), (.load true 2 (.tmp 15)), none, []⟩,
 ⟨(some 26), (.move (.tmp 2)), none, []⟩,
 ⟨(some 27), (.move (.tmp 3)), none, []⟩,
 ⟨(some 28), (.move (.tmp 4)), none, []⟩,
 ⟨(some 29), (.move (.tmp 5)), none, []⟩,
 ⟨(some 30), (.move (.tmp 6)), none, []⟩,
 ⟨(some 31), (.minmax false [(.tmp 30), (.const (.int .i64 10))]), none, []⟩,
 ⟨(some 32), (.minmax true [(.const (.int .i64 0)), (.tmp 31)]), none, []⟩,
 ⟨(some 33), (.build [.nilp, (.sc (.int .i64 0)), .nils, .nils, (.sc (.int .i64 0)), .nils, (.sc (.bool false)), (.sc (.int .i64 0)), .nils, (.sc (.int .i64 0)), (.sc (.int .i64 0)), (.sc (.int .i64 0)), (.sc (.int .i64 0))] [(0, 1, (.tmp 24)), (1, 2, (.tmp 25)), (3, 1, (.tmp 26)), (4, 1, (.tmp 27)), (5, 1, (.tmp 28)), (6, 1, (.tmp 29)), (7, 1, (.tmp 32))]), none, []⟩,
 ⟨(some 34), (.box (.tmp 33)), none, []⟩,
 ⟨(some 16), (.move (.tmp 34)), none, []⟩] false [1, 2, 14, 16])
 (.seq
 (.reg [
 ⟨(some 35), (.move (.tmp 16)), none, []⟩,
 ⟨(some 36), (.move (.tmp 16)), none, []⟩,
 ⟨(some 37), (.move (.tmp 1)), none, []⟩,
 ⟨(some 38), (.move (.tmp 2)), none, []⟩,
 ⟨(some 39), (.lenS (.tmp 38)), none, []⟩,
 ⟨(some 40), (.nilCheck (.tmp 35)), none, []⟩,
 ⟨(some 41), (.fieldAddr 8 (.tmp 40)), none, []⟩,
 ⟨(some 42), (.fieldAddr 1 (.tmp 41)), none, []⟩,
 ⟨none, (.store 1 (.tmp 42) (.tmp 37)), none, []⟩,
 ⟨(some 43), (.nilCheck (.tmp 36)), none, []⟩,
 ⟨(some 44), (.fieldAddr 8 (.tmp 43)), none, []⟩,
 ⟨(some 45), (.fieldAddr 4 (.tmp 44)), none, []⟩,
 ⟨none, (.store 1 (.tmp 45) (.tmp 39)), none, []⟩] false [14, 16])
 (.seq
 (.block 0
 (.loop
 (.seq
 (.seq
 (.reg [
 ⟨(some 46), (.move (.tmp 16)), none, []⟩,
 ⟨(some 47), (.nilCheck (.tmp 46)), none, []⟩,
 ⟨(some 48), (.fieldAddr 8 (.tmp 47)), none, []⟩,
 ⟨(some 49), (.fieldAddr 2 (.tmp 48)), none, []⟩,
 ⟨(some 50), (.load false 1 (.tmp 49)), none, []⟩,
 ⟨(some 51), (.bin .eql (.tmp 50) (.const (.int .i64 0))), none, []⟩] false [14, 16, 51])
 (.cond (.tmp 51)
 .skip
 (.exit 0)))
 (.block 1
 (.reg [
 ⟨(some 52), (.move (.tmp 16)), none, []⟩,
 ⟨(some 53), (.move (.tmp 16)), none, []⟩,
 ⟨(some 54), (.callF 29 [(.tmp 53)]), none, []⟩,
 ⟨(some 55), (.nilCheck (.tmp 52)), none, []⟩,
 ⟨(some 56), (.fieldAddr 8 (.tmp 55)), none, []⟩,
 ⟨(some 57), (.fieldAddr 2 (.tmp 56)), none, []⟩,
 ⟨none, (.store 1 (.tmp 57) (.tmp 54)), none, []⟩] false [14, 16])))))
 (.seq
 (.reg [
 ⟨(some 58), (.move (.tmp 16)), none, []⟩,
 ⟨(some 59), (.nilCheck (.tmp 58)), none, []⟩,
 ⟨(some 60), (.fieldAddr 8 (.tmp 59)), none, []⟩,
 ⟨(some 61), (.load true 5 (.tmp 60)), none, []⟩,
 ⟨none, (.store 5 (.tmp 14) (.tmp 61)), none, []⟩] false [14])
 .ret)))))))
-- simp set: ac14
theorem isF14 : IsFunc Try.prog 14 7 ac14 [.cell 14 true 5] := isFunc_of _ [(0, [0, 1, 2, 3, 4, 5, 6, 14]), (1, [0, 1, 2, 3, 4, 5, 6, 14, 15]), (2, [0, 1, 2, 3, 4, 5, 6, 14, 15, 22]), (3, [14]), (4, [1, 2, 14, 16]), (5, [14, 16]), (6, [14, 16, 51]), (7, [14, 16]), (8, [14])] Try.func14 (by kernel_rfl)
/-- waymark/waymarkref15.Has; loop heads: [[3, 5, 9, 10, 11, 12]] -/
def op15_32 : List AOper := [
 ⟨(some 32), (.move (.tmp 9)), none, []⟩,
 ⟨(some 33), (.load true 2 (.tmp 11)), none, []⟩,
 ⟨(some 34), (.move (.tmp 3)), none, []⟩,
 ⟨(some 35), (.move (.tmp 12)), none, []⟩,
 ⟨(some 36), (.indexAddrS 1 (.tmp 34) (.tmp 35)), none, [2, 3]⟩,
 ⟨(some 37), (.load false 1 (.tmp 36)), none, [4]⟩,
 ⟨(some 38), (.callF 32 [(.tmp 32), (.tmp 33), (.tmp 37)]), none, [0, 1, 5]⟩,
 ⟨(some 31), (.move (.tmp 38)), none, [6]⟩,
 ⟨(some 39), (.extract (.tmp 31) 0), none, [7]⟩,
 ⟨(some 40), (.extract (.tmp 31) 1), none, [7]⟩,
 ⟨none, (.store 2 (.tmp 11) (.tmp 39)), none, [8, 6, 0, 1, 2, 3, 4, 5, 6, 7, 8]⟩,
 ⟨(some 10), (.move (.tmp 40)), none, [9, 10, 0, 1, 2, 3, 4, 5, 6, 7, 8, 9, 10]⟩]
@[go_sem ↓] theorem op15_32_run {K : AExit → Fr → Store → Prop} {fr : Fr} {σ : Store} : wp Try.prog (.reg op15_32 true [3, 5, 9, 10, 11, 12]) K fr σ = wpOpsD Try.prog (Kreg [3, 5, 9, 10, 11, 12] K) op15_32 (Fr.get fr) σ := wp_draw (by kernel_rfl)
def op15_41 : List AOper := [
 ⟨(some 41), (.move (.tmp 10)), none, []⟩,
 ⟨(some 42), (.move (.tmp 41)), none, [0]⟩,
 ⟨(some 43), (.load true 2 (.tmp 11)), (some (42, true)), [1]⟩,
 ⟨(some 44), (.load true 7 (.tmp 5)), (some (42, true)), [1]⟩,
 ⟨(some 45), (.callF 33 [(.tmp 44)]), (some (42, true)), [3, 1, 1]⟩,
 ⟨(some 46), (.eqAgg false [0, 0] (.tmp 43) (.tmp 45)), (some (42, true)), [2, 4, 1]⟩,
 ⟨(some 47), (.pick (.tmp 42) (.tmp 46) (.const (.bool false))), none, [1, 5]⟩,
 ⟨(some 8), (.move (.tmp 47)), none, [6, 4, 0, 1, 2, 3, 4, 5, 6]⟩]
@[go_sem ↓] theorem op15_41_run {K : AExit → Fr → Store → Prop} {fr : Fr} {σ : Store} : wp Try.prog (.reg op15_41 true [8]) K fr σ = wpOpsD Try.prog (Kreg [8] K) op15_41 (Fr.get fr) σ := wp_draw (by kernel_rfl)
def ac15 : ACode :=
 (.seq
 (.reg [
 ⟨(some 4), (.box (.tmp 0)), none, []⟩,
 ⟨(some 5), (.box (.tmp 1)), none, []⟩,
 ⟨(some 8), (.move (.const (.bool false))), none, []⟩] false [2, 3, 4, 5])
 (.seq
 (.reg [
 ⟨(some 14), (.load true 2 (.tmp 4)), none, []⟩,
 ⟨(some 15), (.load true 7 (.tmp 5)), none, []⟩,
 ⟨(some 16), (.move (.tmp 2)), none, []⟩,
 ⟨(some 17), (.callF 30 [(.tmp 14), (.tmp 15), (.tmp 16)]), none, []⟩,
 ⟨(some 13), (.move (.tmp 17)), none, []⟩,
 ⟨(some 18), (.extract (.tmp 13) 0), none, []⟩,
 ⟨(some 19), (.extract (.tmp 13) 1), none, []⟩,
 ⟨(some 9), (.move (.tmp 18)), none, []⟩,
 ⟨(some 10), (.move (.tmp 19)), none, []⟩] false [3, 5, 9, 10])
 (.seq
 (.reg [
 ⟨(some 20), (.load true 7 (.tmp 5)), none, []⟩,
 ⟨(some 21), (.callF 31 [(.tmp 20)]), none, []⟩,
 ⟨(some 11), (.alloc [(.sc (.int .i64 0)), (.sc (.int .i64 0))]), none, []⟩,
 ⟨none, (.store 2 (.tmp 11) (.tmp 21)), none, []⟩] false [3, 5, 9, 10, 11])
 (.seq
 (.seq
 (.reg [
 ⟨(some 12), (.move (.const (.int .i64 0))), none, []⟩] false [3, 5, 9, 10, 11, 12])
 (.block 0
 (.loop
 (.seq
 (.seq
 (.reg [
 ⟨(some 22), (.move (.tmp 12)), none, []⟩,
 ⟨(some 23), (.move (.tmp 3)), none, []⟩,
 ⟨(some 24), (.lenS (.tmp 23)), none, []⟩,
 ⟨(some 25), (.bin .lss (.tmp 22) (.tmp 24)), none, []⟩,
 ⟨(some 26), (.move (.tmp 25)), none, []⟩,
 ⟨(some 27), (.move (.tmp 10)), (some (26, true)), []⟩,
 ⟨(some 28), (.pick (.tmp 26) (.tmp 27) (.const (.bool false))), none, []⟩] false [3, 5, 9, 10, 11, 12, 28])
 (.cond (.tmp 28)
 .skip
 (.exit 0)))
 (.seq
 (.block 1
 (.reg op15_32 true [3, 5, 9, 10, 11, 12]))
 (.reg [
 ⟨(some 29), (.move (.tmp 12)), none, []⟩,
 ⟨(some 30), (.bin .add (.tmp 29) (.const (.int .i64 1))), none, []⟩,
 ⟨(some 12), (.move (.tmp 30)), none, []⟩] false [3, 5, 9, 10, 11, 12]))))))
 (.seq
 (.reg op15_41 true [8])
 .ret)))))
-- simp set: ac15, op15_32, op15_41
theorem isF15 : IsFunc Try.prog 15 4 ac15 [.tmp 8] := isFunc_of _ [(0, [2, 3, 4, 5]), (1, [3, 5, 9, 10]), (2, [3, 5, 9, 10, 11]), (3, [3, 5, 9, 10, 11, 12]), (4, [3, 5, 9, 10, 11, 12, 28]), (6, [3, 5, 9, 10, 11, 12]), (5, [3, 5, 9, 10, 11, 12]), (7, [8])] Try.func15 (by kernel_rfl)
/-- waymark/waymarkref1.Ends; loop heads: [] -/
def op16_27 : List AOper := [
 ⟨(some 27), (.fieldAddr 1 (.tmp 7)), none, []⟩,
 ⟨(some 28), (.load false 1 (.tmp 27)), none, [0]⟩,
 ⟨(some 29), (.fieldAddr 0 (.tmp 7)), none, []⟩,
 ⟨(some 30), (.load false 1 (.tmp 29)), none, [2]⟩,
 ⟨(some 4), (.move (.tmp 28)), none, [1, 0, 1]⟩,
 ⟨(some 5), (.move (.tmp 30)), none, [3, 4, 0, 1, 2, 3, 4]⟩,
 ⟨(some 6), (.move (.const (.bool true))), none, [5, 0, 1, 2, 3, 4, 5]⟩]
@[go_sem ↓] theorem op16_27_run {K : AExit → Fr → Store → Prop} {fr : Fr} {σ : Store} : wp Try.prog (.reg op16_27 true [4, 5, 6]) K fr σ = wpOpsD Try.prog (Kreg [4, 5, 6] K) op16_27 (Fr.get fr) σ := wp_draw (by kernel_rfl)
def op16_31 : List AOper := [
 ⟨(some 31), (.fieldAddr 0 (.tmp 7)), none, []⟩,
 ⟨(some 32), (.load false 1 (.tmp 31)), none, [0]⟩,
 ⟨(some 33), (.fieldAddr 1 (.tmp 7)), none, []⟩,
 ⟨(some 34), (.load false 1 (.tmp 33)), none, [2]⟩,
 ⟨(some 4), (.move (.tmp 32)), none, [1, 0, 1]⟩,
 ⟨(some 5), (.move (.tmp 34)), none, [3, 4, 0, 1, 2, 3, 4]⟩,
 ⟨(some 6), (.move (.const (.bool true))), none, [5, 0, 1, 2, 3, 4, 5]⟩]
@[go_sem ↓] theorem op16_31_run {K : AExit → Fr → Store → Prop} {fr : Fr} {σ : Store} : wp Try.prog (.reg op16_31 true [4, 5, 6]) K fr σ = wpOpsD Try.prog (Kreg [4, 5, 6] K) op16_31 (Fr.get fr) σ := wp_draw (by kernel_rfl)
def ac16 : ACode :=
 (.seq
 (.reg [
 ⟨(some 2), (.box (.tmp 0)), none, []⟩,
 ⟨(some 4), (.move (.const (.int .i64 0))), none, []⟩,
 ⟨(some 5), (.move (.const (.int .i64 0))), none, []⟩,
 ⟨(some 6), (.move (.const (.bool false))), none, []⟩] false [1, 2])
 (.seq
 (.seq
 (.reg [
 ⟨(some 8), (.move (.tmp 1)), none, []⟩,
 ⟨(some 9), (.bin .lss (.tmp 8) (.const (.int .i64 0))), none, []⟩,
 ⟨(some 10), (.move (.tmp 9)), none, []⟩,
 ⟨(some 11), (.move (.tmp 1)), (some (10, false)), []⟩,
 ⟨(some 12), (.bin .quo (.tmp 11) (.const (.int .i64 2))), (some (10, false)), []⟩,
 ⟨(some 13), (.fieldAddr 1 (.tmp 2)), (some (10, false)), []⟩,
 ⟨(some 14), (.load false 1 (.tmp 13)), (some (10, false)), []⟩,
 ⟨(some 15), (.lenS (.tmp 14)), (some (10, false)), []⟩,
 ⟨(some 16), (.bin .geq (.tmp 12) (.tmp 15)), (some (10, false)), []⟩,
 ⟨(some 17), (.pick (.tmp 10) (.const (.bool true)) (.tmp 16)), none, []⟩] false [1, 2, 17])
 (.cond (.tmp 17)
 (.seq
 (.reg [
 ⟨(some 4), (.move (.const (.int .i64 0))), none, []⟩,
 ⟨(some 5), (.move (.const (.int .i64 0))), none, []⟩,
 ⟨(some 6), (.move (.const (.bool false))), none, []⟩] false [4, 5, 6])
 .ret)
 .skip))
 (.seq
 (.reg [
 ⟨(some 18), (.fieldAddr 1 (.tmp 2)), none, []⟩,
 ⟨(some 19), (.load false 1 (.tmp 18)), none, []⟩,
 ⟨(some 20), (.move (.tmp 1)), none, []⟩,
 ⟨(some 21), (.bin .quo (.tmp 20) (.const (.int .i64 2))), none, []⟩,
 ⟨(some 22), (.indexAddrS 4 (.tmp 19) (.tmp 21)), none, []⟩,
 ⟨(some 23), (.load true 4 (.tmp 22)), none, []⟩,
 ⟨(some 7), (.alloc [(.sc (.int .i64 0)), (.sc (.int .i64 0)), (.sc (.int .i64 0)), (.sc (.int .i64 0))]), none, []⟩,
 ⟨none, (.store 4 (.tmp 7) (.tmp 23)), none, []⟩] false [1, 7])
 (.seq
 (.seq
 (.reg [
 ⟨(some 24), (.move (.tmp 1)), none, []⟩,
 ⟨(some 25), (.bin .rem (.tmp 24) (.const (.int .i64 2))), none, []⟩,
 ⟨(some 26), (.bin .eql (.tmp 25) (.const (.int .i64 1))), none, []⟩] false [7, 26])
 (.cond (.tmp 26)
 (.seq
 (.reg op16_27 true [4, 5, 6])
 .ret)
 .skip))
 (.seq
 (.reg op16_31 true [4, 5, 6])
 .ret)))))
-- simp set: ac16, op16_27, op16_31
theorem isF16 : IsFunc Try.prog 16 2 ac16 [.tmp 4, .tmp 5, .tmp 6] := isFunc_of _ [(0, [1, 2]), (1, [1, 2, 17]), (2, [4, 5, 6]), (3, [1, 7]), (4, [7, 26]), (5, [4, 5, 6]), (6, [4, 5, 6])] Try.func16 (by kernel_rfl)
/-- waymark/waymarkref1.IsDown; loop heads: [] -/
def ac17 : ACode :=
 (.seq
 (.reg [
 ⟨(some 4), (.move (.const (.bool false))), none, []⟩] false [0, 1])
 (.seq
 (.reg [
 ⟨(some 5), (.move (.tmp 1)), none, []⟩,
 ⟨(some 6), (.bin .geq (.tmp 5) (.const (.int .i64 0))), none, []⟩,
 ⟨(some 7), (.move (.tmp 6)), none, []⟩,
 ⟨(some 8), (.move (.tmp 1)), (some (7, true)), []⟩,
 ⟨(some 9), (.move (.tmp 0)), (some (7, true)), []⟩,
 ⟨(some 10), (.lenS (.tmp 9)), (some (7, true)), []⟩,
 ⟨(some 11), (.bin .lss (.tmp 8) (.tmp 10)), (some (7, true)), []⟩,
 ⟨(some 12), (.pick (.tmp 7) (.tmp 11) (.const (.bool false))), none, []⟩,
 ⟨(some 13), (.move (.tmp 12)), none, []⟩,
 ⟨(some 14), (.move (.tmp 0)), (some (13, true)), []⟩,
 ⟨(some 15), (.move (.tmp 1)), (some (13, true)), []⟩,
 ⟨(some 16), (.indexAddrS 1 (.tmp 14) (.tmp 15)), (some (13, true)), []⟩,
 ⟨(some 17), (.load false 1 (.tmp 16)), (some (13, true)), []⟩,
 ⟨(some 18), (.pick (.tmp 13) (.tmp 17) (.const (.bool false))), none, []⟩,
 ⟨(some 4), (.move (.tmp 18)), none, []⟩] false [4])
 .ret))
-- simp set: ac17
theorem isF17 : IsFunc Try.prog 17 2 ac17 [.tmp 4] := isFunc_of _ [(0, [0, 1]), (1, [4])] Try.func17 (by kernel_rfl)
/-- waymark/tables.New; loop heads: [[1, 6, 28, 29], [1, 6, 8, 9, 28, 29, 39, 40]] -/
def op19_19 : List AOper := [
 ⟨(some 19), (.fieldAddr 0 (.tmp 1)), none, []⟩,
 ⟨(some 20), (.load false 1 (.tmp 19)), none, [0]⟩,
 ⟨(some 21), (.fieldAddr 1 (.tmp 1)), none, []⟩,
 ⟨(some 22), (.load false 1 (.tmp 21)), none, [2]⟩,
 ⟨(some 23), (.callF 36 [(.tmp 22)]), none, [3]⟩,
 ⟨(some 24), (.build [(.sc (.int .i64 0)), .nils] [(0, 1, (.tmp 20)), (1, 1, (.tmp 23))]), none, [1, 4]⟩,
 ⟨(some 25), (.build [(.sc (.int .i64 0)), .nils, .nils, .nils] [(0, 2, (.tmp 24))]), none, [5]⟩,
 ⟨(some 26), (.box (.tmp 25)), none, [6]⟩,
 ⟨(some 6), (.move (.tmp 26)), none, [7, 4, 0, 1, 2, 3, 4, 5, 6, 7]⟩]
@[go_sem ↓] theorem op19_19_run {K : AExit → Fr → Store → Prop} {fr : Fr} {σ : Store} : wp Try.prog (.reg op19_19 true [1, 6]) K fr σ = wpOpsD Try.prog (Kreg [1, 6] K) op19_19 (Fr.get fr) σ := wp_draw (by kernel_rfl)
def op19_54 : List AOper := [
 ⟨(some 54), (.move (.tmp 6)), none, []⟩,
 ⟨(some 55), (.move (.tmp 6)), none, []⟩,
 ⟨(some 56), (.move (.tmp 6)), none, []⟩,
 ⟨(some 57), (.nilCheck (.tmp 56)), none, [2]⟩,
 ⟨(some 58), (.fieldAddr 2 (.tmp 57)), none, [3]⟩,
 ⟨(some 59), (.load false 1 (.tmp 58)), none, [4]⟩,
 ⟨(some 60), (.move (.tmp 8)), none, []⟩,
 ⟨(some 61), (.buildSlice 1 1 [.nils] [(0, (.tmp 60))]), none, [6]⟩,
 ⟨(some 62), (.append 1 24 [.nils] (.tmp 59) (.tmp 61)), none, [5, 7]⟩,
 ⟨(some 63), (.move (.tmp 6)), none, []⟩,
 ⟨(some 64), (.nilCheck (.tmp 63)), none, [9]⟩,
 ⟨(some 65), (.fieldAddr 3 (.tmp 64)), none, [10]⟩,
 ⟨(some 66), (.load false 1 (.tmp 65)), none, [11]⟩,
 ⟨(some 67), (.move (.tmp 9)), none, []⟩,
 ⟨(some 68), (.buildSlice 1 1 [.nils] [(0, (.tmp 67))]), none, [13]⟩,
 ⟨(some 69), (.append 1 24 [.nils] (.tmp 66) (.tmp 68)), none, [12, 14, 8]⟩,
 ⟨(some 70), (.nilCheck (.tmp 54)), none, [0, 0, 2, 3, 4, 5, 6, 7, 8, 12, 15]⟩,
 ⟨(some 71), (.fieldAddr 2 (.tmp 70)), none, [16, 0, 2, 3, 4, 5, 6, 7, 8, 12, 15]⟩,
 ⟨none, (.store 1 (.tmp 71) (.tmp 62)), none, [17, 8, 15, 0, 2, 3, 4, 5, 6, 7, 8, 12, 15]⟩,
 ⟨(some 72), (.nilCheck (.tmp 55)), none, [1, 0, 1, 2, 3, 4, 5, 6, 7, 8, 9, 10, 11, 12, 13, 14, 15, 16, 17, 18]⟩,
 ⟨(some 73), (.fieldAddr 3 (.tmp 72)), none, [19, 0, 1, 2, 3, 4, 5, 6, 7, 8, 9, 10, 11, 12, 13, 14, 15, 16, 17, 18]⟩,
 ⟨none, (.store 1 (.tmp 73) (.tmp 69)), none, [20, 15, 18, 0, 1, 2, 3, 4, 5, 6, 7, 8, 9, 10, 11, 12, 13, 14, 15, 16, 17, 18]⟩]
def ac19 : ACode :=
 (.seq
 (.reg [
 ⟨(some 1), (.box (.tmp 0)), none, []⟩,
 ⟨(some 2), (.move (.const (.pointer none))), none, []⟩,
 ⟨(some 3), (.move (.const (.int .i64 0))), none, []⟩] false [1])
 (.seq
 (.seq
 (.reg [
 ⟨(some 12), (.load true 2 (.tmp 1)), none, []⟩,
 ⟨(some 13), (.callF 35 [(.tmp 12)]), none, []⟩,
 ⟨(some 11), (.move (.tmp 13)), none, []⟩,
 ⟨(some 14), (.extract (.tmp 11) 0), none, []⟩,
 ⟨(some 15), (.extract (.tmp 11) 1), none, []⟩,
 ⟨(some 4), (.move (.tmp 14)), none, []⟩,
 ⟨(some 5), (.move (.tmp 15)), none, []⟩] false [1, 5])
 (.seq
 (.reg [
 ⟨(some 16), (.move (.tmp 5)), none, []⟩,
 ⟨(some 17), (.bin .neq (.tmp 16) (.const (.int .i64 0))), none, []⟩] false [1, 5, 17])
 (.cond (.tmp 17)
 (.seq
 (.reg [
 ⟨(some 18), (.move (.tmp 5)), none, []⟩,
 ⟨(some 2), (.move (.const (.pointer none))), none, []⟩,
 ⟨(some 3), (.move (.tmp 18)), none, []⟩] false [2, 3])
 .ret)
 .skip)))
 (.seq
 (.reg op19_19 true [1, 6])
 (.seq
 (.seq
 (.reg [
 ⟨(some 27), (.fieldAddr 0 (.tmp 1)), none, []⟩,
 ⟨(some 28), (.load false 1 (.tmp 27)), none, []⟩,
 ⟨(some 29), (.move (.const (.int .i64 0))), none, []⟩] false [1, 6, 28, 29])
 (.block 0
 (.loop
 (.seq
 (.reg [
 ⟨(some 30), (.bin .lss (.tmp 29) (.tmp 28)), none, []⟩] false [1, 6, 28, 29, 30])
 (.seq
 (.cond (.tmp 30)
 .skip
 (.exit 0))
 (.seq
 (.block 1
 (.seq
 (.reg [
 ⟨(some 31), (.move (.tmp 29)), none, []⟩,
 ⟨(some 7), (.move (.tmp 31)), none, []⟩] false [1, 6, 7, 28, 29])
 (.seq
 (.reg [
 ⟨(some 32), (.move (.tmp 6)), none, []⟩,
 ⟨(some 33), (.nilCheck (.tmp 32)), none, []⟩,
 ⟨(some 34), (.fieldAddr 0 (.tmp 33)), none, []⟩,
 ⟨(some 35), (.load true 2 (.tmp 34)), none, []⟩,
 ⟨(some 36), (.move (.tmp 7)), none, []⟩,
 ⟨(some 37), (.callF 37 [(.tmp 35), (.const (.slice none 0 0)), (.tmp 36)]), none, []⟩,
 ⟨(some 8), (.move (.tmp 37)), none, []⟩] false [1, 6, 8, 28, 29])
 (.seq
 (.reg [
 ⟨(some 9), (.move (.const (.slice none 0 0))), none, []⟩] false [1, 6, 8, 9, 28, 29])
 (.seq
 (.seq
 (.reg [
 ⟨(some 38), (.fieldAddr 0 (.tmp 1)), none, []⟩,
 ⟨(some 39), (.load false 1 (.tmp 38)), none, []⟩,
 ⟨(some 40), (.move (.const (.int .i64 0))), none, []⟩] false [1, 6, 8, 9, 28, 29, 39, 40])
 (.block 2
 (.loop
 (.seq
 (.reg [
 ⟨(some 41), (.bin .lss (.tmp 40) (.tmp 39)), none, []⟩] false [1, 6, 8, 9, 28, 29, 39, 40, 41])
 (.seq
 (.cond (.tmp 41)
 .skip
 (.exit 2))
 (.seq
 (.block 3
 (.seq
 (.reg [
 ⟨(some 42), (.move (.tmp 40)), none, []⟩,
 ⟨(some 10), (.move (.tmp 42)), none, []⟩] false [1, 6, 8, 9, 10, 28, 29, 39, 40])
 (.reg [
 ⟨(some 43), (.move (.tmp 9)), none, []⟩,
 ⟨(some 44), (.move (.tmp 6)), none, []⟩,
 ⟨(some 45), (.nilCheck (.tmp 44)), none, []⟩,
 ⟨(some 46), (.fieldAddr 0 (.tmp 45)), none, []⟩,
 ⟨(some 47), (.load true 2 (.tmp 46)), none, []⟩,
 ⟨(some 48), (.move (.tmp 8)), none, []⟩,
 ⟨(some 49), (.move (.tmp 10)), none, []⟩,
 ⟨(some 50), (.callF 38 [(.tmp 47), (.const (.slice none 0 0)), (.tmp 48), (.tmp 49)]), none, []⟩,
 ⟨(some 51), (.buildSlice 1 1 [.nils] [(0, (.tmp 50))]), none, []⟩,
 ⟨(some 52), (.append 1 24 [.nils] (.tmp 43) (.tmp 51)), none, []⟩,
 ⟨(some 9), (.move (.tmp 52)), none, []⟩] false [1, 6, 8, 9, 28, 29, 39, 40])))
 (.reg [
 ⟨(some 53), (.bin .add (.tmp 40) (.const (.int .i64 1))), none, []⟩,
 ⟨(some 40), (.move (.tmp 53)), none, []⟩] false [1, 6, 8, 9, 28, 29, 39, 40])))))))
 (.reg op19_54 true [1, 6, 28, 29]))))))
 (.reg [
 ⟨(some 74), (.bin .add (.tmp 29) (.const (.int .i64 1))), none, []⟩,
 ⟨(some 29), (.move (.tmp 74)), none, []⟩] false [1, 6, 28, 29])))))))
 (.seq
 (.reg [
 ⟨(some 75), (.move (.tmp 6)), none, []⟩,
 ⟨(some 2), (.move (.tmp 75)), none, []⟩,
 ⟨(some 3), (.move (.const (.int .i64 0))), none, []⟩] false [2, 3])
 .ret)))))
-- simp set: ac19, op19_19, op19_54
theorem isF19 : IsFunc Try.prog 19 1 ac19 [.tmp 2, .tmp 3] := isFunc_of _ [(0, [1]), (1, [1, 5]), (2, [1, 5, 17]), (3, [2, 3]), (4, [1, 6]), (5, [1, 6, 28, 29]), (6, [1, 6, 28, 29, 30]), (7, [1, 6, 7, 28, 29]), (8, [1, 6, 8, 28, 29]), (9, [1, 6, 8, 9, 28, 29]), (10, [1, 6, 8, 9, 28, 29, 39, 40]), (11, [1, 6, 8, 9, 28, 29, 39, 40, 41]), (12, [1, 6, 8, 9, 10, 28, 29, 39, 40]), (13, [1, 6, 8, 9, 28, 29, 39, 40]), (14, [1, 6, 8, 9, 28, 29, 39, 40]), (15, [1, 6, 28, 29]), (16, [1, 6, 28, 29]), (17, [2, 3])] Try.func19 (by kernel_rfl)
/-- waymark/waymarkref1.NewTables; loop heads: [[1, 6, 7]] -/
def op20_26 : List AOper := [
 ⟨(some 26), (.move (.tmp 6)), none, []⟩,
 ⟨(some 27), (.move (.tmp 6)), none, []⟩,
 ⟨(some 28), (.nilCheck (.tmp 27)), none, [1]⟩,
 ⟨(some 29), (.fieldAddr 2 (.tmp 28)), none, [2]⟩,
 ⟨(some 30), (.load false 1 (.tmp 29)), none, [3]⟩,
 ⟨(some 31), (.load true 2 (.tmp 1)), none, []⟩,
 ⟨(some 32), (.move (.tmp 7)), none, []⟩,
 ⟨(some 33), (.callF 41 [(.tmp 31), (.const (.slice none 0 0)), (.tmp 32)]), none, [5, 6]⟩,
 ⟨(some 34), (.buildSlice 1 1 [.nils] [(0, (.tmp 33))]), none, [7]⟩,
 ⟨(some 35), (.append 1 24 [.nils] (.tmp 30) (.tmp 34)), none, [4, 8, 7]⟩,
 ⟨(some 36), (.nilCheck (.tmp 26)), none, [0, 0, 1, 2, 3, 4, 5, 6, 7, 8, 9]⟩,
 ⟨(some 37), (.fieldAddr 2 (.tmp 36)), none, [10, 0, 1, 2, 3, 4, 5, 6, 7, 8, 9]⟩,
 ⟨none, (.store 1 (.tmp 37) (.tmp 35)), none, [11, 9, 9, 0, 1, 2, 3, 4, 5, 6, 7, 8, 9]⟩]
@[go_sem ↓] theorem op20_26_run {K : AExit → Fr → Store → Prop} {fr : Fr} {σ : Store} : wp Try.prog (.reg op20_26 true [1, 6, 7]) K fr σ = wpOpsD Try.prog (Kreg [1, 6, 7] K) op20_26 (Fr.get fr) σ := wp_draw (by kernel_rfl)
def ac20 : ACode :=
 (.seq
 (.reg [
 ⟨(some 1), (.box (.tmp 0)), none, []⟩,
 ⟨(some 2), (.move (.const (.pointer none))), none, []⟩,
 ⟨(some 3), (.move (.const (.int .i64 0))), none, []⟩] false [1])
 (.seq
 (.reg [
 ⟨(some 9), (.load true 2 (.tmp 1)), none, []⟩,
 ⟨(some 10), (.callF 39 [(.tmp 9)]), none, []⟩,
 ⟨(some 8), (.move (.tmp 10)), none, []⟩,
 ⟨(some 11), (.extract (.tmp 8) 0), none, []⟩,
 ⟨(some 12), (.extract (.tmp 8) 1), none, []⟩,
 ⟨(some 4), (.move (.tmp 11)), none, []⟩,
 ⟨(some 5), (.move (.tmp 12)), none, []⟩] false [1, 5])
 (.seq
 (.seq
 (.reg [
 ⟨(some 13), (.move (.tmp 5)), none, []⟩,
 ⟨(some 14), (.bin .neq (.tmp 13) (.const (.int .i64 0))), none, []⟩] false [1, 5, 14])
 (.cond (.tmp 14)
 (.seq
 (.reg [
 ⟨(some 15), (.move (.tmp 5)), none, []⟩,
 ⟨(some 2), (.move (.const (.pointer none))), none, []⟩,
 ⟨(some 3), (.move (.tmp 15)), none, []⟩] false [2, 3])
 .ret)
 .skip))
 (.seq
 (.reg [
 ⟨(some 16), (.load true 2 (.tmp 1)), none, []⟩,
 ⟨(some 17), (.callF 40 [(.tmp 16)]), none, []⟩,
 ⟨(some 18), (.build [(.sc (.int .i64 0)), .nils, .nils] [(0, 2, (.tmp 17))]), none, []⟩,
 ⟨(some 19), (.box (.tmp 18)), none, []⟩,
 ⟨(some 6), (.move (.tmp 19)), none, []⟩] false [1, 6])
 (.seq
 (.seq
 (.reg [
 ⟨(some 7), (.move (.const (.int .i64 0))), none, []⟩] false [1, 6, 7])
 (.block 0
 (.loop
 (.seq
 (.seq
 (.reg [
 ⟨(some 20), (.move (.tmp 7)), none, []⟩,
 ⟨(some 21), (.fieldAddr 0 (.tmp 1)), none, []⟩,
 ⟨(some 22), (.load false 1 (.tmp 21)), none, []⟩,
 ⟨(some 23), (.bin .lss (.tmp 20) (.tmp 22)), none, []⟩] false [1, 6, 7, 23])
 (.cond (.tmp 23)
 .skip
 (.exit 0)))
 (.seq
 (.block 1
 (.reg op20_26 true [1, 6, 7]))
 (.reg [
 ⟨(some 24), (.move (.tmp 7)), none, []⟩,
 ⟨(some 25), (.bin .add (.tmp 24) (.const (.int .i64 1))), none, []⟩,
 ⟨(some 7), (.move (.tmp 25)), none, []⟩] false [1, 6, 7]))))))
 (.seq
 (.reg [
 ⟨(some 38), (.move (.tmp 6)), none, []⟩,
 ⟨(some 2), (.move (.tmp 38)), none, []⟩,
 ⟨(some 3), (.move (.const (.int .i64 0))), none, []⟩] false [2, 3])
 .ret))))))
-- simp set: ac20, op20_26
theorem isF20 : IsFunc Try.prog 20 1 ac20 [.tmp 2, .tmp 3] := isFunc_of _ [(0, [1]), (1, [1, 5]), (2, [1, 5, 14]), (3, [2, 3]), (4, [1, 6]), (5, [1, 6, 7]), (6, [1, 6, 7, 23]), (8, [1, 6, 7]), (7, [1, 6, 7]), (9, [2, 3])] Try.func20 (by kernel_rfl)
/-- waymark/expand.New; loop heads: [] -/
def ac21 : ACode :=
 (.seq
 (.reg [
 ⟨(some 4), (.box (.tmp 1)), none, []⟩,
 ⟨(some 6), (.move (.const (.pointer none))), none, []⟩,
 ⟨(some 7), (.move (.const (.int .i64 0))), none, []⟩] false [0, 2, 4])
 (.seq
 (.seq
 (.reg [
 ⟨(some 11), (.move (.tmp 0)), none, []⟩,
 ⟨(some 12), (.eqPtr false (.tmp 11) (.const (.pointer none))), none, []⟩] false [0, 2, 4, 12])
 (.cond (.tmp 12)
 (.seq
 (.reg [
 ⟨(some 6), (.move (.const (.pointer none))), none, []⟩,
 ⟨(some 7), (.move (.const (.int .i64 1))), none, []⟩] false [6, 7])
 .ret)
 .skip))
 (.seq
 (.reg [
 ⟨(some 13), (.move (.tmp 0)), none, []⟩,
 ⟨(some 14), (.callF 27 [(.tmp 13)]), none, []⟩,
 ⟨(some 8), (.alloc [(.sc (.int .i64 0)), .nils]), none, []⟩,
 ⟨none, (.store 2 (.tmp 8) (.tmp 14)), none, []⟩] false [0, 2, 4, 8])
 (.seq
 (.reg [
 ⟨(some 16), (.load true 2 (.tmp 8)), none, []⟩,
 ⟨(some 17), (.load true 7 (.tmp 4)), none, []⟩,
 ⟨(some 18), (.move (.tmp 2)), none, []⟩,
 ⟨(some 19), (.callF 42 [(.tmp 16), (.tmp 17), (.tmp 18)]), none, []⟩,
 ⟨(some 15), (.move (.tmp 19)), none, []⟩,
 ⟨(some 20), (.extract (.tmp 15) 0), none, []⟩,
 ⟨(some 21), (.extract (.tmp 15) 1), none, []⟩,
 ⟨(some 9), (.move (.tmp 20)), none, []⟩,
 ⟨(some 10), (.move (.tmp 21)), none, []⟩] false [0, 8, 9, 10])
 (.seq
 (.seq
 (.reg [
 ⟨(some 22), (.move (.tmp 10)), none, []⟩,
 ⟨(some 23), (.bin .neq (.tmp 22) (.const (.int .i64 0))), none, []⟩] false [0, 8, 9, 10, 23])
 (.cond (.tmp 23)
 (.seq
 (.reg [
 ⟨(some 24), (.move (.tmp 10)), none, []⟩,
 ⟨(some 6), (.move (.const (.pointer none))), none, []⟩,
 ⟨(some 7), (.move (.tmp 24)), none, []⟩] false [6, 7])
 .ret)
 .skip))
 (.seq
 (.reg [
 ⟨(some 25), (.move (.tmp 0)), none, []⟩,
 ⟨(some 26), (.load true 2 (.tmp 8)), none, []⟩,
 ⟨(some 27), (.move (.tmp 9)), none, []⟩,
 ⟨(some 28), (.build [.nilp, (.sc (.int .i64 0)), .nils, .nilp] [(0, 1, (.tmp 25)), (1, 2, (.tmp 26)), (3, 1, (.tmp 27))]), none, []⟩,
 ⟨(some 29), (.box (.tmp 28)), none, []⟩,
 ⟨(some 6), (.move (.tmp 29)), none, []⟩,
 ⟨(some 7), (.move (.const (.int .i64 0))), none, []⟩] false [6, 7])
 .ret))))))
-- simp set: ac21
theorem isF21 : IsFunc Try.prog 21 3 ac21 [.tmp 6, .tmp 7] := isFunc_of _ [(0, [0, 2, 4]), (1, [0, 2, 4, 12]), (2, [6, 7]), (3, [0, 2, 4, 8]), (4, [0, 8, 9, 10]), (5, [0, 8, 9, 10, 23]), (6, [6, 7]), (7, [6, 7])] Try.func21 (by kernel_rfl)
/-- waymark/opt.Goal; loop heads: [] -/
def op22_3 : List AOper := [
 ⟨(some 3), (.fieldAddr 1 (.tmp 1)), none, []⟩,
 ⟨(some 4), (.load false 1 (.tmp 3)), none, [0]⟩,
 ⟨(some 5), (.load true 7 (.tmp 1)), none, []⟩,
 ⟨(some 6), (.callF 43 [(.tmp 5)]), none, [2]⟩,
 ⟨(some 7), (.lenS (.tmp 6)), none, [3]⟩,
 ⟨(some 8), (.bin .sub (.tmp 7) (.const (.int .i64 1))), none, [4]⟩,
 ⟨(some 9), (.build [(.sc (.int .i64 0)), (.sc (.int .i64 0))] [(0, 1, (.tmp 4)), (1, 1, (.tmp 8))]), none, [1, 5]⟩,
 ⟨none, (.store 2 (.tmp 2) (.tmp 9)), none, [6, 3, 0, 1, 2, 3, 4, 5, 6]⟩]
@[go_sem ↓] theorem op22_3_run {K : AExit → Fr → Store → Prop} {fr : Fr} {σ : Store} : wp Try.prog (.reg op22_3 true [2]) K fr σ = wpOpsD Try.prog (Kreg [2] K) op22_3 (Fr.get fr) σ := wp_draw (by kernel_rfl)
def ac22 : ACode :=
 (.seq
 (.reg [
 ⟨(some 1), (.box (.tmp 0)), none, []⟩,
 ⟨(some 2), (.alloc [(.sc (.int .i64 0)), (.sc (.int .i64 0))]), none, []⟩] false [1, 2])
 (.seq
 (.reg op22_3 true [2])
 .ret))
-- simp set: ac22, op22_3
theorem isF22 : IsFunc Try.prog 22 1 ac22 [.cell 2 true 2] := isFunc_of _ [(0, [1, 2]), (1, [2])] Try.func22 (by kernel_rfl)
/-- waymark/opt.Start; loop heads: [] -/
def op23_3 : List AOper := [
 ⟨(some 3), (.load true 7 (.tmp 1)), none, []⟩,
 ⟨(some 4), (.callF 43 [(.tmp 3)]), none, [0]⟩,
 ⟨(some 5), (.fieldAddr 0 (.tmp 1)), none, []⟩,
 ⟨(some 6), (.load false 1 (.tmp 5)), none, [2]⟩,
 ⟨(some 7), (.callF 44 [(.tmp 4), (.tmp 6), (.const (.int .i64 0))]), none, [1, 3, 1]⟩,
 ⟨none, (.store 2 (.tmp 2) (.tmp 7)), none, [4, 4, 0, 1, 2, 3, 4]⟩]
@[go_sem ↓] theorem op23_3_run {K : AExit → Fr → Store → Prop} {fr : Fr} {σ : Store} : wp Try.prog (.reg op23_3 true [2]) K fr σ = wpOpsD Try.prog (Kreg [2] K) op23_3 (Fr.get fr) σ := wp_draw (by kernel_rfl)
def ac23 : ACode :=
 (.seq
 (.reg [
 ⟨(some 1), (.box (.tmp 0)), none, []⟩,
 ⟨(some 2), (.alloc [(.sc (.int .i64 0)), (.sc (.int .i64 0))]), none, []⟩] false [1, 2])
 (.seq
 (.reg op23_3 true [2])
 .ret))
-- simp set: ac23, op23_3
theorem isF23 : IsFunc Try.prog 23 1 ac23 [.cell 2 true 2] := isFunc_of _ [(0, [1, 2]), (1, [2])] Try.func23 (by kernel_rfl)
/-- (*waymark/compile.search).rounds; loop heads: [[0, 2, 8, 9, 10], [0, 2, 8, 9, 10, 11, 37, 38, 39], [0, 2, 8, 9, 10, 11, 37, 38, 39, 45, 46, 47]] -/
def ac24 : ACode :=
 (.seq
 (.reg [
 ⟨(some 4), (.box (.tmp 1)), none, []⟩,
 ⟨(some 6), (.move (.const (.slice none 0 0))), none, []⟩,
 ⟨(some 7), (.move (.const (.bool false))), none, []⟩] false [0, 2, 4])
 (.seq
 (.reg [
 ⟨(some 16), .makeMap, none, []⟩,
 ⟨(some 17), (.load true 2 (.tmp 4)), none, []⟩,
 ⟨none, (.mapUpd true [0, 0] (.tmp 16) (.tmp 17) (.const (.bool true))), none, []⟩,
 ⟨(some 18), (.move (.tmp 16)), none, []⟩,
 ⟨(some 8), (.move (.tmp 18)), none, []⟩] false [0, 2, 4, 8])
 (.seq
 (.reg [
 ⟨(some 19), (.load true 2 (.tmp 4)), none, []⟩,
 ⟨(some 20), (.buildSlice 2 1 [(.sc (.int .i64 0)), (.sc (.int .i64 0))] [(0, (.tmp 19))]), none, []⟩,
 ⟨(some 21), (.buildSlice 1 1 [.nils] [(0, (.tmp 20))]), none, []⟩,
 ⟨(some 9), (.move (.tmp 21)), none, []⟩] false [0, 2, 8, 9])
 (.seq
 (.seq
 (.reg [
 ⟨(some 10), (.move (.const (.int .i64 0))), none, []⟩] false [0, 2, 8, 9, 10])
 (.block 0
 (.loop
 (.seq
 (.seq
 (.reg [
 ⟨(some 22), (.move (.tmp 8)), none, []⟩,
 ⟨(some 23), (.move (.tmp 0)), none, []⟩,
 ⟨(some 24), (.nilCheck (.tmp 23)), none, []⟩,
 ⟨(some 25), (.fieldAddr 1 (.tmp 24)), none, []⟩,
 ⟨(some 26), (.load true 2 (.tmp 25)), none, []⟩,
 ⟨(some 27), (.lookup false true [0, 0] (.sc (.bool false)) (.tmp 22) (.tmp 26)), none, []⟩,
 ⟨(some 28), (.un .not (.tmp 27)), none, []⟩] false [0, 2, 8, 9, 10, 28])
 (.cond (.tmp 28)
 .skip
 (.exit 0)))
 (.seq
 (.block 1
 (.seq
 (.seq
 (.reg [
 ⟨(some 31), (.move (.tmp 10)), none, []⟩,
 ⟨(some 32), (.move (.tmp 2)), none, []⟩,
 ⟨(some 33), (.bin .eql (.tmp 31) (.tmp 32)), none, []⟩] false [0, 2, 8, 9, 10, 33])
 (.cond (.tmp 33)
 (.seq
 (.reg [
 ⟨(some 6), (.move (.const (.slice none 0 0))), none, []⟩,
 ⟨(some 7), (.move (.const (.bool false))), none, []⟩] false [6, 7])
 .ret)
 .skip))
 (.seq
 (.reg [
 ⟨(some 11), (.move (.const (.slice none 0 0))), none, []⟩] false [0, 2, 8, 9, 10, 11])
 (.seq
 (.seq
 (.reg [
 ⟨(some 34), (.move (.tmp 9)), none, []⟩,
 ⟨(some 35), (.move (.tmp 10)), none, []⟩,
 ⟨(some 36), (.indexAddrS 1 (.tmp 34) (.tmp 35)), none, []⟩,
 ⟨(some 37), (.load false 1 (.tmp 36)), none, []⟩,
 ⟨(some 38), (.lenS (.tmp 37)), none, []⟩,
 ⟨(some 39), (.move (.const (.int .i64 0))), none, []⟩] false [0, 2, 8, 9, 10, 11, 37, 38, 39])
 (.block 2
 (.loop
 (.seq
 (.reg [
 ⟨(some 40), (.bin .lss (.tmp 39) (.tmp 38)), none, []⟩] false [0, 2, 8, 9, 10, 11, 37, 38, 39, 40])
 (.seq
 (.cond (.tmp 40)
 .skip
 (.exit 2))
 (.seq
 (.block 3
 (.seq
 (.reg [
 ⟨(some 41), (.indexAddrS 2 (.tmp 37) (.tmp 39)), none, []⟩,
 ⟨(some 42), (.load true 2 (.tmp 41)), none, []⟩,
 ⟨(some 13), (.alloc [(.sc (.int .i64 0)), (.sc (.int .i64 0))]), none, []⟩,
 ⟨none, (.store 2 (.tmp 13) (.tmp 42)), none, []⟩] false [0, 2, 8, 9, 10, 11, 13, 37, 38, 39])
 (.seq
 (.reg [
 ⟨(some 43), (.move (.tmp 0)), none, []⟩,
 ⟨(some 44), (.load true 2 (.tmp 13)), none, []⟩,
 ⟨(some 45), (.callF 26 [(.tmp 43), (.tmp 44)]), none, []⟩,
 ⟨(some 46), (.lenS (.tmp 45)), none, []⟩,
 ⟨(some 47), (.move (.const (.int .i64 0))), none, []⟩] false [0, 2, 8, 9, 10, 11, 37, 38, 39, 45, 46, 47])
 (.block 4
 (.loop
 (.seq
 (.reg [
 ⟨(some 48), (.bin .lss (.tmp 47) (.tmp 46)), none, []⟩] false [0, 2, 8, 9, 10, 11, 37, 38, 39, 45, 46, 47, 48])
 (.seq
 (.cond (.tmp 48)
 .skip
 (.exit 4))
 (.seq
 (.block 5
 (.seq
 (.reg [
 ⟨(some 49), (.indexAddrS 4 (.tmp 45) (.tmp 47)), none, []⟩,
 ⟨(some 50), (.load true 4 (.tmp 49)), none, []⟩,
 ⟨(some 15), (.alloc [(.sc (.bool false)), (.sc (.int .i64 0)), (.sc (.int .i64 0)), (.sc (.int .i64 0))]), none, []⟩,
 ⟨none, (.store 4 (.tmp 15) (.tmp 50)), none, []⟩] false [0, 2, 8, 9, 10, 11, 15, 37, 38, 39, 45, 46, 47])
 (.seq
 (.reg [
 ⟨(some 51), (.move (.tmp 8)), none, []⟩,
 ⟨(some 52), (.fieldAddr 2 (.tmp 15)), none, []⟩,
 ⟨(some 53), (.load true 2 (.tmp 52)), none, []⟩,
 ⟨(some 54), (.lookup false true [0, 0] (.sc (.bool false)) (.tmp 51) (.tmp 53)), none, []⟩,
 ⟨(some 55), (.un .not (.tmp 54)), none, []⟩] false [0, 2, 8, 9, 10, 11, 15, 37, 38, 39, 45, 46, 47, 55])
 (.cond (.tmp 55)
 (.seq
 (.reg [
 ⟨(some 56), (.move (.tmp 8)), none, []⟩,
 ⟨(some 57), (.fieldAddr 2 (.tmp 15)), none, []⟩,
 ⟨(some 58), (.load true 2 (.tmp 57)), none, []⟩,
 ⟨none, (.mapUpd true [0, 0] (.tmp 56) (.tmp 58) (.const (.bool true))), none, []⟩] false [0, 2, 8, 9, 10, 11, 15, 37, 38, 39, 45, 46, 47])
 (.reg [
 ⟨(some 59), (.move (.tmp 11)), none, []⟩,
 ⟨(some 60), (.fieldAddr 2 (.tmp 15)), none, []⟩,
 ⟨(some 61), (.load true 2 (.tmp 60)), none, []⟩,
 ⟨(some 62), (.buildSlice 2 1 [(.sc (.int .i64 0)), (.sc (.int .i64 0))] [(0, (.tmp 61))]), none, []⟩,
 ⟨(some 63), (.append 2 16 [(.sc (.int .i64 0)), (.sc (.int .i64 0))] (.tmp 59) (.tmp 62)), none, []⟩,
 ⟨(some 11), (.move (.tmp 63)), none, []⟩] false [0, 2, 8, 9, 10, 11, 37, 38, 39, 45, 46, 47]))
 .skip))))
 (.reg [
 ⟨(some 64), (.bin .add (.tmp 47) (.const (.int .i64 1))), none, []⟩,
 ⟨(some 47), (.move (.tmp 64)), none, []⟩] false [0, 2, 8, 9, 10, 11, 37, 38, 39, 45, 46, 47])))))))))
 (.reg [
 ⟨(some 65), (.bin .add (.tmp 39) (.const (.int .i64 1))), none, []⟩,
 ⟨(some 39), (.move (.tmp 65)), none, []⟩] false [0, 2, 8, 9, 10, 11, 37, 38, 39])))))))
 (.reg [
 ⟨(some 66), (.move (.tmp 9)), none, []⟩,
 ⟨(some 67), (.move (.tmp 11)), none, []⟩,
 ⟨(some 68), (.buildSlice 1 1 [.nils] [(0, (.tmp 67))]), none, []⟩,
 ⟨(some 69), (.append 1 24 [.nils] (.tmp 66) (.tmp 68)), none, []⟩,
 ⟨(some 9), (.move (.tmp 69)), none, []⟩] false [0, 2, 8, 9, 10])))))
 (.reg [
 ⟨(some 29), (.move (.tmp 10)), none, []⟩,
 ⟨(some 30), (.bin .add (.tmp 29) (.const (.int .i64 1))), none, []⟩,
 ⟨(some 10), (.move (.tmp 30)), none, []⟩] false [0, 2, 8, 9, 10]))))))
 (.seq
 (.reg [
 ⟨(some 70), (.move (.tmp 9)), none, []⟩,
 ⟨(some 6), (.move (.tmp 70)), none, []⟩,
 ⟨(some 7), (.move (.const (.bool true))), none, []⟩] false [6, 7])
 .ret)))))
-- simp set: ac24
theorem isF24 : IsFunc Try.prog 24 3 ac24 [.tmp 6, .tmp 7] := isFunc_of _ [(0, [0, 2, 4]), (1, [0, 2, 4, 8]), (2, [0, 2, 8, 9]), (3, [0, 2, 8, 9, 10]), (4, [0, 2, 8, 9, 10, 28]), (6, [0, 2, 8, 9, 10, 33]), (7, [6, 7]), (8, [0, 2, 8, 9, 10, 11]), (9, [0, 2, 8, 9, 10, 11, 37, 38, 39]), (10, [0, 2, 8, 9, 10, 11, 37, 38, 39, 40]), (11, [0, 2, 8, 9, 10, 11, 13, 37, 38, 39]), (12, [0, 2, 8, 9, 10, 11, 37, 38, 39, 45, 46, 47]), (13, [0, 2, 8, 9, 10, 11, 37, 38, 39, 45, 46, 47, 48]), (14, [0, 2, 8, 9, 10, 11, 15, 37, 38, 39, 45, 46, 47]), (15, [0, 2, 8, 9, 10, 11, 15, 37, 38, 39, 45, 46, 47, 55]), (16, [0, 2, 8, 9, 10, 11, 15, 37, 38, 39, 45, 46, 47]), (17, [0, 2, 8, 9, 10, 11, 37, 38, 39, 45, 46, 47]), (18, [0, 2, 8, 9, 10, 11, 37, 38, 39, 45, 46, 47]), (19, [0, 2, 8, 9, 10, 11, 37, 38, 39]), (20, [0, 2, 8, 9, 10]), (5, [0, 2, 8, 9, 10]), (21, [6, 7])] Try.func24 (by kernel_rfl)
/-- (*waymark/compile.search).left; loop heads: [[0, 1, 5, 6], [0, 1, 5, 6, 39, 40, 41], [0, 1, 5, 6, 8, 39, 40, 41, 47, 48, 49]] -/
def op25_53 : List AOper := [
 ⟨(some 53), (.move (.tmp 5)), none, []⟩,
 ⟨(some 54), (.move (.tmp 6)), none, []⟩,
 ⟨(some 55), (.bin .add (.tmp 54) (.const (.int .i64 1))), none, [1]⟩,
 ⟨(some 56), (.indexAddrS 1 (.tmp 53) (.tmp 55)), none, [0, 2]⟩,
 ⟨(some 57), (.load false 1 (.tmp 56)), none, [3]⟩,
 ⟨(some 58), (.fieldAddr 2 (.tmp 10)), none, []⟩,
 ⟨(some 59), (.load true 2 (.tmp 58)), none, [5]⟩,
 ⟨(some 60), (.lookup false true [0, 0] (.sc (.bool false)) (.tmp 57) (.tmp 59)), none, [4, 6]⟩]
@[go_sem ↓] theorem op25_53_run {K : AExit → Fr → Store → Prop} {fr : Fr} {σ : Store} : wp Try.prog (.reg op25_53 true [0, 1, 5, 6, 8, 39, 40, 41, 47, 48, 49, 60]) K fr σ = wpOpsD Try.prog (Kreg [0, 1, 5, 6, 8, 39, 40, 41, 47, 48, 49, 60] K) op25_53 (Fr.get fr) σ := wp_draw (by kernel_rfl)
def op25_61 : List AOper := [
 ⟨(some 61), (.move (.tmp 5)), none, []⟩,
 ⟨(some 62), (.move (.tmp 6)), none, []⟩,
 ⟨(some 63), (.indexAddrS 1 (.tmp 61) (.tmp 62)), none, [0, 1]⟩,
 ⟨(some 64), (.load false 1 (.tmp 63)), none, [2]⟩,
 ⟨(some 65), (.load true 2 (.tmp 8)), none, []⟩,
 ⟨none, (.mapUpd true [0, 0] (.tmp 64) (.tmp 65) (.const (.bool true))), none, [3, 4, 0, 1, 2, 3, 4]⟩]
@[go_sem ↓] theorem op25_61_run {K : AExit → Fr → Store → Prop} {fr : Fr} {σ : Store} : wp Try.prog (.reg op25_61 true [0, 1, 5, 6, 8, 39, 40, 41, 47, 48, 49]) K fr σ = wpOpsD Try.prog (Kreg [0, 1, 5, 6, 8, 39, 40, 41, 47, 48, 49] K) op25_61 (Fr.get fr) σ := wp_draw (by kernel_rfl)
def ac25 : ACode :=
 (.seq
 (.reg [
 ⟨(some 4), (.move (.const (.slice none 0 0))), none, []⟩] false [0, 1])
 (.seq
 (.reg [
 ⟨(some 11), (.move (.tmp 1)), none, []⟩,
 ⟨(some 12), (.lenS (.tmp 11)), none, []⟩,
 ⟨(some 13), (.makeSlice 1 8 [.nilm] (.tmp 12) (.tmp 12)), none, []⟩,
 ⟨(some 5), (.move (.tmp 13)), none, []⟩] false [0, 1, 5])
 (.seq
 (.reg [
 ⟨(some 14), (.move (.tmp 5)), none, []⟩,
 ⟨(some 15), (.move (.tmp 5)), none, []⟩,
 ⟨(some 16), (.lenS (.tmp 15)), none, []⟩,
 ⟨(some 17), (.bin .sub (.tmp 16) (.const (.int .i64 1))), none, []⟩,
 ⟨(some 18), .makeMap, none, []⟩,
 ⟨(some 19), (.move (.tmp 0)), none, []⟩,
 ⟨(some 20), (.nilCheck (.tmp 19)), none, []⟩,
 ⟨(some 21), (.fieldAddr 1 (.tmp 20)), none, []⟩,
 ⟨(some 22), (.load true 2 (.tmp 21)), none, []⟩,
 ⟨none, (.mapUpd true [0, 0] (.tmp 18) (.tmp 22) (.const (.bool true))), none, []⟩,
 ⟨(some 23), (.move (.tmp 18)), none, []⟩,
 ⟨(some 24), (.indexAddrS 1 (.tmp 14) (.tmp 17)), none, []⟩,
 ⟨none, (.store 1 (.tmp 24) (.tmp 23)), none, []⟩] false [0, 1, 5])
 (.seq
 (.seq
 (.reg [
 ⟨(some 25), (.move (.tmp 5)), none, []⟩,
 ⟨(some 26), (.lenS (.tmp 25)), none, []⟩,
 ⟨(some 27), (.bin .sub (.tmp 26) (.const (.int .i64 2))), none, []⟩,
 ⟨(some 6), (.move (.tmp 27)), none, []⟩] false [0, 1, 5, 6])
 (.block 0
 (.loop
 (.seq
 (.seq
 (.reg [
 ⟨(some 28), (.move (.tmp 6)), none, []⟩,
 ⟨(some 29), (.bin .geq (.tmp 28) (.const (.int .i64 0))), none, []⟩] false [0, 1, 5, 6, 29])
 (.cond (.tmp 29)
 .skip
 (.exit 0)))
 (.seq
 (.block 1
 (.seq
 (.reg [
 ⟨(some 32), (.move (.tmp 5)), none, []⟩,
 ⟨(some 33), (.move (.tmp 6)), none, []⟩,
 ⟨(some 34), .makeMap, none, []⟩,
 ⟨(some 35), (.indexAddrS 1 (.tmp 32) (.tmp 33)), none, []⟩,
 ⟨none, (.store 1 (.tmp 35) (.tmp 34)), none, []⟩] false [0, 1, 5, 6])
 (.seq
 (.reg [
 ⟨(some 36), (.move (.tmp 1)), none, []⟩,
 ⟨(some 37), (.move (.tmp 6)), none, []⟩,
 ⟨(some 38), (.indexAddrS 1 (.tmp 36) (.tmp 37)), none, []⟩,
 ⟨(some 39), (.load false 1 (.tmp 38)), none, []⟩,
 ⟨(some 40), (.lenS (.tmp 39)), none, []⟩,
 ⟨(some 41), (.move (.const (.int .i64 0))), none, []⟩] false [0, 1, 5, 6, 39, 40, 41])
 (.block 2
 (.loop
 (.seq
 (.reg [
 ⟨(some 42), (.bin .lss (.tmp 41) (.tmp 40)), none, []⟩] false [0, 1, 5, 6, 39, 40, 41, 42])
 (.seq
 (.cond (.tmp 42)
 .skip
 (.exit 2))
 (.seq
 (.block 3
 (.seq
 (.reg [
 ⟨(some 43), (.indexAddrS 2 (.tmp 39) (.tmp 41)), none, []⟩,
 ⟨(some 44), (.load true 2 (.tmp 43)), none, []⟩,
 ⟨(some 8), (.alloc [(.sc (.int .i64 0)), (.sc (.int .i64 0))]), none, []⟩,
 ⟨none, (.store 2 (.tmp 8) (.tmp 44)), none, []⟩] false [0, 1, 5, 6, 8, 39, 40, 41])
 (.seq
 (.reg [
 ⟨(some 45), (.move (.tmp 0)), none, []⟩,
 ⟨(some 46), (.load true 2 (.tmp 8)), none, []⟩,
 ⟨(some 47), (.callF 26 [(.tmp 45), (.tmp 46)]), none, []⟩,
 ⟨(some 48), (.lenS (.tmp 47)), none, []⟩,
 ⟨(some 49), (.move (.const (.int .i64 0))), none, []⟩] false [0, 1, 5, 6, 8, 39, 40, 41, 47, 48, 49])
 (.block 4
 (.loop
 (.seq
 (.reg [
 ⟨(some 50), (.bin .lss (.tmp 49) (.tmp 48)), none, []⟩] false [0, 1, 5, 6, 8, 39, 40, 41, 47, 48, 49, 50])
 (.seq
 (.cond (.tmp 50)
 .skip
 (.exit 4))
 (.seq
 (.block 5
 (.seq
 (.reg [
 ⟨(some 51), (.indexAddrS 4 (.tmp 47) (.tmp 49)), none, []⟩,
 ⟨(some 52), (.load true 4 (.tmp 51)), none, []⟩,
 ⟨(some 10), (.alloc [(.sc (.bool false)), (.sc (.int .i64 0)), (.sc (.int .i64 0)), (.sc (.int .i64 0))]), none, []⟩,
 ⟨none, (.store 4 (.tmp 10) (.tmp 52)), none, []⟩] false [0, 1, 5, 6, 8, 10, 39, 40, 41, 47, 48, 49])
 (.seq
 (.reg op25_53 true [0, 1, 5, 6, 8, 39, 40, 41, 47, 48, 49, 60])
 (.cond (.tmp 60)
 (.reg op25_61 true [0, 1, 5, 6, 8, 39, 40, 41, 47, 48, 49])
 .skip))))
 (.reg [
 ⟨(some 66), (.bin .add (.tmp 49) (.const (.int .i64 1))), none, []⟩,
 ⟨(some 49), (.move (.tmp 66)), none, []⟩] false [0, 1, 5, 6, 8, 39, 40, 41, 47, 48, 49])))))))))
 (.reg [
 ⟨(some 67), (.bin .add (.tmp 41) (.const (.int .i64 1))), none, []⟩,
 ⟨(some 41), (.move (.tmp 67)), none, []⟩] false [0, 1, 5, 6, 39, 40, 41])))))))))
 (.reg [
 ⟨(some 30), (.move (.tmp 6)), none, []⟩,
 ⟨(some 31), (.bin .sub (.tmp 30) (.const (.int .i64 1))), none, []⟩,
 ⟨(some 6), (.move (.tmp 31)), none, []⟩] false [0, 1, 5, 6]))))))
 (.seq
 (.reg [
 ⟨(some 68), (.move (.tmp 5)), none, []⟩,
 ⟨(some 4), (.move (.tmp 68)), none, []⟩] false [4])
 .ret)))))
-- simp set: ac25, op25_53, op25_61
theorem isF25 : IsFunc Try.prog 25 2 ac25 [.tmp 4] := isFunc_of _ [(0, [0, 1]), (1, [0, 1, 5]), (2, [0, 1, 5]), (3, [0, 1, 5, 6]), (4, [0, 1, 5, 6, 29]), (6, [0, 1, 5, 6]), (7, [0, 1, 5, 6, 39, 40, 41]), (8, [0, 1, 5, 6, 39, 40, 41, 42]), (9, [0, 1, 5, 6, 8, 39, 40, 41]), (10, [0, 1, 5, 6, 8, 39, 40, 41, 47, 48, 49]), (11, [0, 1, 5, 6, 8, 39, 40, 41, 47, 48, 49, 50]), (12, [0, 1, 5, 6, 8, 10, 39, 40, 41, 47, 48, 49]), (13, [0, 1, 5, 6, 8, 39, 40, 41, 47, 48, 49, 60]), (14, [0, 1, 5, 6, 8, 39, 40, 41, 47, 48, 49]), (15, [0, 1, 5, 6, 8, 39, 40, 41, 47, 48, 49]), (16, [0, 1, 5, 6, 39, 40, 41]), (5, [0, 1, 5, 6]), (17, [4])] Try.func25 (by kernel_rfl)
/-- (*waymark/compile.search).from; loop heads: [[2, 3, 7, 8, 27, 28], [2, 3, 7, 8, 40, 41]] -/
def op26_12 : List AOper := [
 ⟨(some 12), (.load false 1 (.tmp 2)), none, []⟩,
 ⟨(some 13), (.nilCheck (.tmp 12)), none, [0]⟩,
 ⟨(some 14), (.fieldAddr 3 (.tmp 13)), none, [1]⟩,
 ⟨(some 15), (.load false 1 (.tmp 14)), none, [2]⟩,
 ⟨(some 16), (.load true 2 (.tmp 3)), none, []⟩,
 ⟨(some 17), (.lookup true true [0, 0] .nils (.tmp 15) (.tmp 16)), none, [3, 4]⟩,
 ⟨(some 11), (.move (.tmp 17)), none, [5]⟩,
 ⟨(some 18), (.extract (.tmp 11) 0), none, [6]⟩,
 ⟨(some 19), (.extract (.tmp 11) 1), none, [6]⟩,
 ⟨(some 5), (.move (.tmp 18)), none, [7, 0, 1, 2, 3, 4, 5, 6, 7]⟩,
 ⟨(some 6), (.move (.tmp 19)), none, [8, 9, 0, 1, 2, 3, 4, 5, 6, 7, 8, 9]⟩]
@[go_sem ↓] theorem op26_12_run {K : AExit → Fr → Store → Prop} {fr : Fr} {σ : Store} : wp Try.prog (.reg op26_12 true [2, 3, 5, 6]) K fr σ = wpOpsD Try.prog (Kreg [2, 3, 5, 6] K) op26_12 (Fr.get fr) σ := wp_draw (by kernel_rfl)
def op26_49 : List AOper := [
 ⟨(some 49), (.load false 1 (.tmp 2)), none, []⟩,
 ⟨(some 50), (.nilCheck (.tmp 49)), none, [0]⟩,
 ⟨(some 51), (.fieldAddr 3 (.tmp 50)), none, [1]⟩,
 ⟨(some 52), (.load false 1 (.tmp 51)), none, [2]⟩,
 ⟨(some 53), (.load true 2 (.tmp 3)), none, []⟩,
 ⟨(some 54), (.load false 1 (.tmp 7)), none, []⟩,
 ⟨none, (.mapUpd true [0, 0] (.tmp 52) (.tmp 53) (.tmp 54)), none, [3, 4, 5, 0, 1, 2, 3, 4, 5]⟩]
@[go_sem ↓] theorem op26_49_run {K : AExit → Fr → Store → Prop} {fr : Fr} {σ : Store} : wp Try.prog (.reg op26_49 true [7]) K fr σ = wpOpsD Try.prog (Kreg [7] K) op26_49 (Fr.get fr) σ := wp_draw (by kernel_rfl)
def ac26 : ACode :=
 (.seq
 (.reg [
 ⟨(some 2), (.box (.tmp 0)), none, []⟩,
 ⟨(some 3), (.box (.tmp 1)), none, []⟩,
 ⟨(some 4), (.move (.const (.slice none 0 0))), none, []⟩] false [2, 3])
 (.seq
 (.seq
 (.reg op26_12 true [2, 3, 5, 6])
 (.seq
 (.reg [
 ⟨(some 20), (.move (.tmp 6)), none, []⟩] false [2, 3, 5, 20])
 (.cond (.tmp 20)
 (.seq
 (.reg [
 ⟨(some 21), (.move (.tmp 5)), none, []⟩,
 ⟨(some 4), (.move (.tmp 21)), none, []⟩] false [4])
 .ret)
 .skip)))
 (.seq
 (.reg [
 ⟨(some 7), (.alloc [.nils]), none, []⟩] false [2, 3, 7])
 (.seq
 (.reg [
 ⟨(some 22), (.makeFunc 45 [(.tmp 2), (.tmp 3), (.tmp 7)]), none, []⟩,
 ⟨(some 8), (.move (.tmp 22)), none, []⟩] false [2, 3, 7, 8])
 (.seq
 (.seq
 (.reg [
 ⟨(some 23), (.load false 1 (.tmp 2)), none, []⟩,
 ⟨(some 24), (.nilCheck (.tmp 23)), none, []⟩,
 ⟨(some 25), (.fieldAddr 0 (.tmp 24)), none, []⟩,
 ⟨(some 26), (.load false 1 (.tmp 25)), none, []⟩,
 ⟨(some 27), (.callF 47 [(.tmp 26)]), none, []⟩,
 ⟨(some 28), (.move (.const (.int .i64 0))), none, []⟩] false [2, 3, 7, 8, 27, 28])
 (.block 0
 (.loop
 (.seq
 (.reg [
 ⟨(some 29), (.bin .lss (.tmp 28) (.tmp 27)), none, []⟩] false [2, 3, 7, 8, 27, 28, 29])
 (.seq
 (.cond (.tmp 29)
 .skip
 (.exit 0))
 (.seq
 (.block 1
 (.seq
 (.reg [
 ⟨(some 30), (.move (.tmp 28)), none, []⟩,
 ⟨(some 9), (.move (.tmp 30)), none, []⟩] false [2, 3, 7, 8, 9, 27, 28])
 (.reg [
 ⟨(some 31), (.move (.tmp 8)), none, []⟩,
 ⟨(some 32), (.move (.tmp 9)), none, []⟩,
 ⟨(some 33), (.build [(.sc (.bool false)), (.sc (.int .i64 0))] [(1, 1, (.tmp 32))]), none, []⟩,
 ⟨(some 34), (.callV (.tmp 31) [(.tmp 33)]), none, []⟩] false [2, 3, 7, 8, 27, 28])))
 (.reg [
 ⟨(some 35), (.bin .add (.tmp 28) (.const (.int .i64 1))), none, []⟩,
 ⟨(some 28), (.move (.tmp 35)), none, []⟩] false [2, 3, 7, 8, 27, 28])))))))
 (.seq
 (.seq
 (.reg [
 ⟨(some 36), (.load false 1 (.tmp 2)), none, []⟩,
 ⟨(some 37), (.nilCheck (.tmp 36)), none, []⟩,
 ⟨(some 38), (.fieldAddr 0 (.tmp 37)), none, []⟩,
 ⟨(some 39), (.load false 1 (.tmp 38)), none, []⟩,
 ⟨(some 40), (.callF 48 [(.tmp 39)]), none, []⟩,
 ⟨(some 41), (.move (.const (.int .i64 0))), none, []⟩] false [2, 3, 7, 8, 40, 41])
 (.block 2
 (.loop
 (.seq
 (.reg [
 ⟨(some 42), (.bin .lss (.tmp 41) (.tmp 40)), none, []⟩] false [2, 3, 7, 8, 40, 41, 42])
 (.seq
 (.cond (.tmp 42)
 .skip
 (.exit 2))
 (.seq
 (.block 3
 (.seq
 (.reg [
 ⟨(some 43), (.move (.tmp 41)), none, []⟩,
 ⟨(some 10), (.move (.tmp 43)), none, []⟩] false [2, 3, 7, 8, 10, 40, 41])
 (.reg [
 ⟨(some 44), (.move (.tmp 8)), none, []⟩,
 ⟨(some 45), (.move (.tmp 10)), none, []⟩,
 ⟨(some 46), (.build [(.sc (.bool false)), (.sc (.int .i64 0))] [(0, 1, (.const (.bool true))), (1, 1, (.tmp 45))]), none, []⟩,
 ⟨(some 47), (.callV (.tmp 44) [(.tmp 46)]), none, []⟩] false [2, 3, 7, 8, 40, 41])))
 (.reg [
 ⟨(some 48), (.bin .add (.tmp 41) (.const (.int .i64 1))), none, []⟩,
 ⟨(some 41), (.move (.tmp 48)), none, []⟩] false [2, 3, 7, 8, 40, 41])))))))
 (.seq
 (.reg op26_49 true [7])
 (.seq
 (.reg [
 ⟨(some 55), (.load false 1 (.tmp 7)), none, []⟩,
 ⟨(some 4), (.move (.tmp 55)), none, []⟩] false [4])
 .ret))))))))
-- simp set: ac26, op26_12, op26_49
theorem isF26 : IsFunc Try.prog 26 2 ac26 [.tmp 4] := isFunc_of _ [(0, [2, 3]), (1, [2, 3, 5, 6]), (2, [2, 3, 5, 20]), (3, [4]), (4, [2, 3, 7]), (5, [2, 3, 7, 8]), (6, [2, 3, 7, 8, 27, 28]), (7, [2, 3, 7, 8, 27, 28, 29]), (8, [2, 3, 7, 8, 9, 27, 28]), (9, [2, 3, 7, 8, 27, 28]), (10, [2, 3, 7, 8, 27, 28]), (11, [2, 3, 7, 8, 40, 41]), (12, [2, 3, 7, 8, 40, 41, 42]), (13, [2, 3, 7, 8, 10, 40, 41]), (14, [2, 3, 7, 8, 40, 41]), (15, [2, 3, 7, 8, 40, 41]), (16, [7]), (17, [4])] Try.func26 (by kernel_rfl)
/-- (*waymark/tables.Tables).Graph; loop heads: [] -/
def op27_6 : List AOper := [
 ⟨(some 6), (.move (.tmp 0)), none, []⟩,
 ⟨(some 7), (.nilCheck (.tmp 6)), none, [0]⟩,
 ⟨(some 8), (.fieldAddr 0 (.tmp 7)), none, [1]⟩,
 ⟨(some 9), (.fieldAddr 0 (.tmp 8)), none, [2]⟩,
 ⟨(some 10), (.load false 1 (.tmp 9)), none, [3]⟩,
 ⟨(some 11), (.move (.tmp 0)), none, []⟩,
 ⟨(some 12), (.nilCheck (.tmp 11)), none, [5]⟩,
 ⟨(some 13), (.fieldAddr 0 (.tmp 12)), none, [6]⟩,
 ⟨(some 14), (.fieldAddr 1 (.tmp 13)), none, [7]⟩,
 ⟨(some 15), (.load false 1 (.tmp 14)), none, [8]⟩,
 ⟨(some 16), (.callF 36 [(.tmp 15)]), none, [9]⟩,
 ⟨(some 17), (.build [(.sc (.int .i64 0)), .nils] [(0, 1, (.tmp 10)), (1, 1, (.tmp 16))]), none, [4, 10]⟩,
 ⟨none, (.store 2 (.tmp 2) (.tmp 17)), none, [11, 10, 0, 1, 2, 3, 4, 5, 6, 7, 8, 9, 10, 11]⟩]
@[go_sem ↓] theorem op27_6_run {K : AExit → Fr → Store → Prop} {fr : Fr} {σ : Store} : wp Try.prog (.reg op27_6 true [2]) K fr σ = wpOpsD Try.prog (Kreg [2] K) op27_6 (Fr.get fr) σ := wp_draw (by kernel_rfl)
def ac27 : ACode :=
 (.seq
 (.reg [
 ⟨(some 2), (.alloc [(.sc (.int .i64 0)), .nils]), none, []⟩] false [0, 2])
 (.seq
 (.seq
 (.reg [
 ⟨(some 3), (.move (.tmp 0)), none, []⟩,
 ⟨(some 4), (.eqPtr false (.tmp 3) (.const (.pointer none))), none, []⟩] false [0, 2, 4])
 (.cond (.tmp 4)
 (.seq
 (.reg [
 ⟨(some 5), (.build [(.sc (.int .i64 0)), .nils] []), none, []⟩,
 ⟨none, (.store 2 (.tmp 2) (.tmp 5)), none, []⟩] false [2])
 .ret)
 .skip))
 (.seq
 (.reg op27_6 true [2])
 .ret)))
-- simp set: ac27, op27_6
theorem isF27 : IsFunc Try.prog 27 1 ac27 [.cell 2 true 2] := isFunc_of _ [(0, [0, 2]), (1, [0, 2, 4]), (2, [2]), (3, [2])] Try.func27 (by kernel_rfl)
/-- waymark/graph.Is; loop heads: [] -/
def ac28 : ACode :=
 (.seq
 (.reg [
 ⟨(some 2), (.box (.tmp 0)), none, []⟩,
 ⟨(some 4), (.move (.const (.bool false))), none, []⟩] false [1, 2])
 (.seq
 (.reg [
 ⟨(some 5), (.move (.tmp 1)), none, []⟩,
 ⟨(some 6), (.bin .geq (.tmp 5) (.const (.int .i64 0))), none, []⟩,
 ⟨(some 7), (.move (.tmp 6)), none, []⟩,
 ⟨(some 8), (.move (.tmp 1)), (some (7, true)), []⟩,
 ⟨(some 9), (.fieldAddr 0 (.tmp 2)), (some (7, true)), []⟩,
 ⟨(some 10), (.load false 1 (.tmp 9)), (some (7, true)), []⟩,
 ⟨(some 11), (.bin .lss (.tmp 8) (.tmp 10)), (some (7, true)), []⟩,
 ⟨(some 12), (.pick (.tmp 7) (.tmp 11) (.const (.bool false))), none, []⟩,
 ⟨(some 4), (.move (.tmp 12)), none, []⟩] false [4])
 .ret))
-- simp set: ac28
theorem isF28 : IsFunc Try.prog 28 2 ac28 [.tmp 4] := isFunc_of _ [(0, [1, 2]), (1, [4])] Try.func28 (by kernel_rfl)
/-- (*waymark/walk.packet).step; loop heads: [] -/
def op29_13 : List AOper := [
 ⟨(some 13), (.move (.tmp 0)), none, []⟩,
 ⟨(some 14), (.nilCheck (.tmp 13)), none, [0]⟩,
 ⟨(some 15), (.fieldAddr 3 (.tmp 14)), none, [1]⟩,
 ⟨(some 16), (.load false 1 (.tmp 15)), none, [2]⟩,
 ⟨(some 17), (.indexAddrS 2 (.tmp 16) (.const (.int .i64 0))), none, [3]⟩,
 ⟨(some 18), (.fieldAddr 0 (.tmp 17)), none, [4]⟩,
 ⟨(some 19), (.load false 1 (.tmp 18)), none, [5]⟩,
 ⟨(some 20), (.un .not (.tmp 19)), none, [6]⟩,
 ⟨(some 21), (.move (.tmp 20)), none, [7]⟩,
 ⟨(some 22), (.move (.tmp 0)), (some (21, true)), [8]⟩,
 ⟨(some 23), (.nilCheck (.tmp 22)), (some (21, true)), [9, 8]⟩,
 ⟨(some 24), (.fieldAddr 3 (.tmp 23)), (some (21, true)), [10, 8]⟩,
 ⟨(some 25), (.load false 1 (.tmp 24)), (some (21, true)), [11, 8]⟩,
 ⟨(some 26), (.indexAddrS 2 (.tmp 25) (.const (.int .i64 0))), (some (21, true)), [12, 8]⟩,
 ⟨(some 27), (.fieldAddr 1 (.tmp 26)), (some (21, true)), [13, 8]⟩,
 ⟨(some 28), (.load false 1 (.tmp 27)), (some (21, true)), [14, 8]⟩,
 ⟨(some 29), (.move (.tmp 0)), (some (21, true)), [8]⟩,
 ⟨(some 30), (.nilCheck (.tmp 29)), (some (21, true)), [16, 8]⟩,
 ⟨(some 31), (.fieldAddr 8 (.tmp 30)), (some (21, true)), [17, 8]⟩,
 ⟨(some 32), (.fieldAddr 1 (.tmp 31)), (some (21, true)), [18, 8]⟩,
 ⟨(some 33), (.load false 1 (.tmp 32)), (some (21, true)), [19, 8]⟩,
 ⟨(some 34), (.bin .eql (.tmp 28) (.tmp 33)), (some (21, true)), [15, 20, 8]⟩,
 ⟨(some 35), (.pick (.tmp 21) (.tmp 34) (.const (.bool false))), none, [8, 21]⟩,
 ⟨(some 12), (.move (.tmp 35)), none, [22, 8]⟩]
@[go_sem ↓] theorem op29_13_run {K : AExit → Fr → Store → Prop} {fr : Fr} {σ : Store} : wp Try.prog (.reg op29_13 true [0, 12]) K fr σ = wpOpsD Try.prog (Kreg [0, 12] K) op29_13 (Fr.get fr) σ := wp_draw (by kernel_rfl)
def ac29 : ACode :=
 (.seq
 (.reg [
 ⟨(some 2), (.move (.const (.int .i64 0))), none, []⟩] false [0])
 (.seq
 (.block 0
 (.seq
 (.reg [
 ⟨(some 6), (.move (.tmp 0)), none, []⟩,
 ⟨(some 7), (.nilCheck (.tmp 6)), none, []⟩,
 ⟨(some 8), (.fieldAddr 3 (.tmp 7)), none, []⟩,
 ⟨(some 9), (.load false 1 (.tmp 8)), none, []⟩,
 ⟨(some 10), (.lenS (.tmp 9)), none, []⟩,
 ⟨(some 11), (.bin .eql (.tmp 10) (.const (.int .i64 0))), none, []⟩,
 ⟨(some 5), (.move (.tmp 11)), none, []⟩] false [0, 5])
 (.cond (.tmp 5)
 (.seq
 (.reg [
 ⟨(some 2), (.move (.const (.int .i64 1))), none, []⟩] false [2])
 .ret)
 (.seq
 (.reg op29_13 true [0, 12])
 (.cond (.tmp 12)
 (.seq
 (.reg [
 ⟨(some 36), (.move (.tmp 0)), none, []⟩,
 ⟨(some 37), (.move (.tmp 0)), none, []⟩,
 ⟨(some 38), (.nilCheck (.tmp 37)), none, []⟩,
 ⟨(some 39), (.fieldAddr 3 (.tmp 38)), none, []⟩,
 ⟨(some 40), (.load false 1 (.tmp 39)), none, []⟩,
 ⟨(some 41), (.slice 2 (.tmp 40) (some (.const (.int .i64 1))) none none), none, []⟩,
 ⟨(some 42), (.nilCheck (.tmp 36)), none, []⟩,
 ⟨(some 43), (.fieldAddr 3 (.tmp 42)), none, []⟩,
 ⟨none, (.store 1 (.tmp 43) (.tmp 41)), none, []⟩] false [])
 (.seq
 (.reg [
 ⟨(some 2), (.move (.const (.int .i64 0))), none, []⟩] false [2])
 .ret))
 (.seq
 (.reg [
 ⟨(some 45), (.move (.tmp 0)), none, []⟩,
 ⟨(some 46), (.nilCheck (.tmp 45)), none, []⟩,
 ⟨(some 47), (.fieldAddr 8 (.tmp 46)), none, []⟩,
 ⟨(some 48), (.fieldAddr 0 (.tmp 47)), none, []⟩,
 ⟨(some 49), (.load false 1 (.tmp 48)), none, []⟩,
 ⟨(some 50), (.lenS (.tmp 49)), none, []⟩,
 ⟨(some 51), (.bin .eql (.tmp 50) (.const (.int .i64 255))), none, []⟩,
 ⟨(some 44), (.move (.tmp 51)), none, []⟩] false [0, 44])
 (.cond (.tmp 44)
 (.seq
 (.reg [
 ⟨(some 2), (.move (.const (.int .i64 2))), none, []⟩] false [2])
 .ret)
 (.seq
 (.reg [
 ⟨(some 53), (.move (.tmp 0)), none, []⟩,
 ⟨(some 54), (.callF 49 [(.tmp 53)]), none, []⟩,
 ⟨(some 52), (.move (.tmp 54)), none, []⟩] false [0, 52])
 (.cond (.tmp 52)
 (.seq
 (.reg [
 ⟨(some 2), (.move (.const (.int .i64 5))), none, []⟩] false [2])
 .ret)
 .skip)))))))))
 (.seq
 (.reg [
 ⟨(some 56), (.move (.tmp 0)), none, []⟩,
 ⟨(some 57), (.callF 50 [(.tmp 56)]), none, []⟩,
 ⟨(some 55), (.move (.tmp 57)), none, []⟩,
 ⟨(some 58), (.extract (.tmp 55) 0), none, []⟩,
 ⟨(some 59), (.extract (.tmp 55) 1), none, []⟩,
 ⟨(some 3), (.move (.tmp 58)), none, []⟩,
 ⟨(some 4), (.move (.tmp 59)), none, []⟩] false [0, 3, 4])
 (.seq
 (.block 1
 (.seq
 (.reg [
 ⟨(some 61), (.move (.tmp 4)), none, []⟩,
 ⟨(some 62), (.un .not (.tmp 61)), none, []⟩,
 ⟨(some 60), (.move (.tmp 62)), none, []⟩] false [0, 3, 60])
 (.cond (.tmp 60)
 (.seq
 (.reg [
 ⟨(some 2), (.move (.const (.int .i64 4))), none, []⟩] false [2])
 .ret)
 (.seq
 (.reg [
 ⟨(some 64), (.move (.tmp 0)), none, []⟩,
 ⟨(some 65), (.nilCheck (.tmp 64)), none, []⟩,
 ⟨(some 66), (.fieldAddr 5 (.tmp 65)), none, []⟩,
 ⟨(some 67), (.load false 1 (.tmp 66)), none, []⟩,
 ⟨(some 68), (.move (.tmp 3)), none, []⟩,
 ⟨(some 69), (.callF 51 [(.tmp 67), (.tmp 68)]), none, []⟩,
 ⟨(some 63), (.move (.tmp 69)), none, []⟩] false [0, 3, 63])
 (.cond (.tmp 63)
 (.seq
 (.reg [
 ⟨(some 70), (.move (.tmp 0)), none, []⟩,
 ⟨(some 71), (.move (.tmp 3)), none, []⟩,
 ⟨(some 72), (.callF 52 [(.tmp 70), (.tmp 71)]), none, []⟩] false [])
 (.seq
 (.reg [
 ⟨(some 2), (.move (.const (.int .i64 0))), none, []⟩] false [2])
 .ret))
 (.seq
 (.reg [
 ⟨(some 74), (.move (.tmp 0)), none, []⟩,
 ⟨(some 75), (.nilCheck (.tmp 74)), none, []⟩,
 ⟨(some 76), (.fieldAddr 6 (.tmp 75)), none, []⟩,
 ⟨(some 77), (.load false 1 (.tmp 76)), none, []⟩,
 ⟨(some 78), (.move (.tmp 77)), none, []⟩,
 ⟨(some 79), (.move (.tmp 0)), (some (78, false)), []⟩,
 ⟨(some 80), (.move (.tmp 3)), (some (78, false)), []⟩,
 ⟨(some 81), (.callF 53 [(.tmp 79), (.tmp 80)]), (some (78, false)), []⟩,
 ⟨(some 82), (.un .not (.tmp 81)), (some (78, false)), []⟩,
 ⟨(some 83), (.pick (.tmp 78) (.const (.bool true)) (.tmp 82)), none, []⟩,
 ⟨(some 73), (.move (.tmp 83)), none, []⟩] false [0, 73])
 (.cond (.tmp 73)
 (.seq
 (.reg [
 ⟨(some 2), (.move (.const (.int .i64 3))), none, []⟩] false [2])
 .ret)
 (.seq
 (.reg [
 ⟨(some 85), (.move (.tmp 0)), none, []⟩,
 ⟨(some 86), (.nilCheck (.tmp 85)), none, []⟩,
 ⟨(some 87), (.fieldAddr 8 (.tmp 86)), none, []⟩,
 ⟨(some 88), (.fieldAddr 3 (.tmp 87)), none, []⟩,
 ⟨(some 89), (.load false 1 (.tmp 88)), none, []⟩,
 ⟨(some 90), (.bin .eql (.tmp 89) (.const (.int .i64 255))), none, []⟩,
 ⟨(some 84), (.move (.tmp 90)), none, []⟩] false [84])
 (.cond (.tmp 84)
 (.seq
 (.reg [
 ⟨(some 2), (.move (.const (.int .i64 2))), none, []⟩] false [2])
 .ret)
 .skip)))))))))
 (.seq
 (.reg [
 ⟨(some 2), (.move (.const (.int .i64 0))), none, []⟩] false [2])
 .ret)))))
-- simp set: ac29, op29_13
theorem isF29 : IsFunc Try.prog 29 1 ac29 [.tmp 2] := isFunc_of _ [(0, [0]), (1, [0, 5]), (2, [2]), (3, [0, 12]), (5, [2]), (6, [0, 44]), (7, [2]), (8, [0, 52]), (9, [2]), (10, [0, 3, 4]), (11, [0, 3, 60]), (12, [2]), (13, [0, 3, 63]), (15, [2]), (16, [0, 73]), (17, [2]), (18, [84]), (19, [2]), (20, [2])] Try.func29 (by kernel_rfl)
/-- waymark/waymarkref15.NewOpt; loop heads: [[3, 10, 11]] -/
def op30_21 : List AOper := [
 ⟨(some 21), (.load true 2 (.tmp 3)), none, []⟩,
 ⟨(some 22), (.load true 7 (.tmp 4)), none, []⟩,
 ⟨(some 23), (.callF 55 [(.tmp 22)]), none, [1]⟩,
 ⟨(some 24), (.load true 2 (.tmp 3)), none, []⟩,
 ⟨(some 25), (.load true 7 (.tmp 4)), none, []⟩,
 ⟨(some 26), (.move (.tmp 2)), none, []⟩,
 ⟨(some 27), (.callF 56 [(.tmp 24), (.tmp 25), (.tmp 26)]), none, [3, 4, 5, 2]⟩,
 ⟨(some 28), (.build [(.sc (.int .i64 0)), .nils, .nils, .nils, .nils] [(0, 2, (.tmp 21)), (2, 1, (.tmp 23)), (3, 1, (.tmp 27))]), none, [0, 2, 6]⟩,
 ⟨(some 29), (.box (.tmp 28)), none, [7]⟩,
 ⟨(some 10), (.move (.tmp 29)), none, [8, 6, 0, 1, 2, 3, 4, 5, 6, 7, 8]⟩]
@[go_sem ↓] theorem op30_21_run {K : AExit → Fr → Store → Prop} {fr : Fr} {σ : Store} : wp Try.prog (.reg op30_21 true [3, 10]) K fr σ = wpOpsD Try.prog (Kreg [3, 10] K) op30_21 (Fr.get fr) σ := wp_draw (by kernel_rfl)
def op30_39 : List AOper := [
 ⟨(some 39), (.move (.tmp 10)), none, []⟩,
 ⟨(some 40), (.move (.tmp 10)), none, []⟩,
 ⟨(some 41), (.nilCheck (.tmp 40)), none, [1]⟩,
 ⟨(some 42), (.fieldAddr 4 (.tmp 41)), none, [2]⟩,
 ⟨(some 43), (.load false 1 (.tmp 42)), none, [3]⟩,
 ⟨(some 44), (.load true 2 (.tmp 3)), none, []⟩,
 ⟨(some 45), (.move (.tmp 10)), none, []⟩,
 ⟨(some 46), (.nilCheck (.tmp 45)), none, [6]⟩,
 ⟨(some 47), (.fieldAddr 3 (.tmp 46)), none, [7]⟩,
 ⟨(some 48), (.load false 1 (.tmp 47)), none, [8]⟩,
 ⟨(some 49), (.move (.tmp 10)), none, []⟩,
 ⟨(some 50), (.nilCheck (.tmp 49)), none, [10]⟩,
 ⟨(some 51), (.fieldAddr 2 (.tmp 50)), none, [11]⟩,
 ⟨(some 52), (.load false 1 (.tmp 51)), none, [12]⟩,
 ⟨(some 53), (.move (.tmp 11)), none, []⟩,
 ⟨(some 54), (.indexAddrS 1 (.tmp 52) (.tmp 53)), none, [13, 14]⟩,
 ⟨(some 55), (.load false 1 (.tmp 54)), none, [15]⟩,
 ⟨(some 56), (.callF 41 [(.tmp 44), (.tmp 48), (.tmp 55)]), none, [5, 9, 16]⟩,
 ⟨(some 57), (.buildSlice 1 1 [.nils] [(0, (.tmp 56))]), none, [17]⟩,
 ⟨(some 58), (.append 1 24 [.nils] (.tmp 43) (.tmp 57)), none, [4, 18, 17]⟩,
 ⟨(some 59), (.nilCheck (.tmp 39)), none, [0, 0, 1, 2, 3, 4, 5, 6, 7, 8, 9, 10, 11, 12, 13, 14, 15, 16, 17, 18, 19]⟩,
 ⟨(some 60), (.fieldAddr 4 (.tmp 59)), none, [20, 0, 1, 2, 3, 4, 5, 6, 7, 8, 9, 10, 11, 12, 13, 14, 15, 16, 17, 18, 19]⟩,
 ⟨none, (.store 1 (.tmp 60) (.tmp 58)), none, [21, 19, 19, 0, 1, 2, 3, 4, 5, 6, 7, 8, 9, 10, 11, 12, 13, 14, 15, 16, 17, 18, 19]⟩]
@[go_sem ↓] theorem op30_39_run {K : AExit → Fr → Store → Prop} {fr : Fr} {σ : Store} : wp Try.prog (.reg op30_39 true [3, 10, 11]) K fr σ = wpOpsD Try.prog (Kreg [3, 10, 11] K) op30_39 (Fr.get fr) σ := wp_draw (by kernel_rfl)
def ac30 : ACode :=
 (.seq
 (.reg [
 ⟨(some 3), (.box (.tmp 0)), none, []⟩,
 ⟨(some 4), (.box (.tmp 1)), none, []⟩,
 ⟨(some 6), (.move (.const (.pointer none))), none, []⟩,
 ⟨(some 7), (.move (.const (.bool false))), none, []⟩] false [2, 3, 4])
 (.seq
 (.reg [
 ⟨(some 13), (.load true 2 (.tmp 3)), none, []⟩,
 ⟨(some 14), (.load true 7 (.tmp 4)), none, []⟩,
 ⟨(some 15), (.move (.tmp 2)), none, []⟩,
 ⟨(some 16), (.callF 54 [(.tmp 13), (.tmp 14), (.tmp 15)]), none, []⟩,
 ⟨(some 12), (.move (.tmp 16)), none, []⟩,
 ⟨(some 17), (.extract (.tmp 12) 0), none, []⟩,
 ⟨(some 18), (.extract (.tmp 12) 1), none, []⟩,
 ⟨(some 8), (.move (.tmp 17)), none, []⟩,
 ⟨(some 9), (.move (.tmp 18)), none, []⟩] false [2, 3, 4, 9])
 (.seq
 (.seq
 (.reg [
 ⟨(some 19), (.move (.tmp 9)), none, []⟩,
 ⟨(some 20), (.bin .neq (.tmp 19) (.const (.int .i64 0))), none, []⟩] false [2, 3, 4, 20])
 (.cond (.tmp 20)
 (.seq
 (.reg [
 ⟨(some 6), (.move (.const (.pointer none))), none, []⟩,
 ⟨(some 7), (.move (.const (.bool false))), none, []⟩] false [6, 7])
 .ret)
 .skip))
 (.seq
 (.reg op30_21 true [3, 10])
 (.seq
 (.seq
 (.reg [
 ⟨(some 11), (.move (.const (.int .i64 0))), none, []⟩] false [3, 10, 11])
 (.block 0
 (.loop
 (.seq
 (.seq
 (.reg [
 ⟨(some 30), (.move (.tmp 11)), none, []⟩,
 ⟨(some 31), (.move (.tmp 10)), none, []⟩,
 ⟨(some 32), (.nilCheck (.tmp 31)), none, []⟩,
 ⟨(some 33), (.fieldAddr 2 (.tmp 32)), none, []⟩,
 ⟨(some 34), (.load false 1 (.tmp 33)), none, []⟩,
 ⟨(some 35), (.lenS (.tmp 34)), none, []⟩,
 ⟨(some 36), (.bin .lss (.tmp 30) (.tmp 35)), none, []⟩] false [3, 10, 11, 36])
 (.cond (.tmp 36)
 .skip
 (.exit 0)))
 (.seq
 (.block 1
 (.reg op30_39 true [3, 10, 11]))
 (.reg [
 ⟨(some 37), (.move (.tmp 11)), none, []⟩,
 ⟨(some 38), (.bin .add (.tmp 37) (.const (.int .i64 1))), none, []⟩,
 ⟨(some 11), (.move (.tmp 38)), none, []⟩] false [3, 10, 11]))))))
 (.seq
 (.reg [
 ⟨(some 61), (.move (.tmp 10)), none, []⟩,
 ⟨(some 6), (.move (.tmp 61)), none, []⟩,
 ⟨(some 7), (.move (.const (.bool true))), none, []⟩] false [6, 7])
 .ret))))))
-- simp set: ac30, op30_21, op30_39
theorem isF30 : IsFunc Try.prog 30 3 ac30 [.tmp 6, .tmp 7] := isFunc_of _ [(0, [2, 3, 4]), (1, [2, 3, 4, 9]), (2, [2, 3, 4, 20]), (3, [6, 7]), (4, [3, 10]), (5, [3, 10, 11]), (6, [3, 10, 11, 36]), (8, [3, 10, 11]), (7, [3, 10, 11]), (9, [6, 7])] Try.func30 (by kernel_rfl)
/-- waymark/waymarkref15.Start; loop heads: [] -/
def op31_3 : List AOper := [
 ⟨(some 3), (.load true 7 (.tmp 1)), none, []⟩,
 ⟨(some 4), (.callF 55 [(.tmp 3)]), none, [0]⟩,
 ⟨(some 5), (.fieldAddr 0 (.tmp 1)), none, []⟩,
 ⟨(some 6), (.load false 1 (.tmp 5)), none, [2]⟩,
 ⟨(some 7), (.build [(.sc (.int .i64 0)), (.sc (.int .i64 0))] [(0, 1, (.tmp 6)), (1, 1, (.const (.int .i64 0)))]), none, [3]⟩,
 ⟨(some 8), (.callF 57 [(.tmp 4), (.tmp 7)]), none, [1, 4, 1]⟩,
 ⟨none, (.store 2 (.tmp 2) (.tmp 8)), none, [5, 5, 0, 1, 2, 3, 4, 5]⟩]
@[go_sem ↓] theorem op31_3_run {K : AExit → Fr → Store → Prop} {fr : Fr} {σ : Store} : wp Try.prog (.reg op31_3 true [2]) K fr σ = wpOpsD Try.prog (Kreg [2] K) op31_3 (Fr.get fr) σ := wp_draw (by kernel_rfl)
def ac31 : ACode :=
 (.seq
 (.reg [
 ⟨(some 1), (.box (.tmp 0)), none, []⟩,
 ⟨(some 2), (.alloc [(.sc (.int .i64 0)), (.sc (.int .i64 0))]), none, []⟩] false [1, 2])
 (.seq
 (.reg op31_3 true [2])
 .ret))
-- simp set: ac31, op31_3
theorem isF31 : IsFunc Try.prog 31 1 ac31 [.cell 2 true 2] := isFunc_of _ [(0, [1, 2]), (1, [2])] Try.func31 (by kernel_rfl)
/-- (*waymark/waymarkref15.Opt).Step; loop heads: [[0, 2, 4, 6, 9, 11, 12]] -/
def op32_23 : List AOper := [
 ⟨(some 23), (.move (.tmp 10)), none, []⟩,
 ⟨(some 24), (.un .not (.tmp 23)), none, [0]⟩,
 ⟨(some 25), (.move (.tmp 24)), none, [1]⟩,
 ⟨(some 26), (.move (.tmp 8)), (some (25, false)), [2]⟩,
 ⟨(some 27), (.indexAddrA 2 1 (.tmp 4) (.const (.int .i64 0))), (some (25, false)), [2]⟩,
 ⟨(some 28), (.load false 1 (.tmp 27)), (some (25, false)), [4, 2]⟩,
 ⟨(some 29), (.bin .neq (.tmp 26) (.tmp 28)), (some (25, false)), [3, 5, 2]⟩,
 ⟨(some 30), (.pick (.tmp 25) (.const (.bool true)) (.tmp 29)), none, [2, 6]⟩,
 ⟨(some 31), (.move (.tmp 30)), none, [7, 2]⟩,
 ⟨(some 32), (.indexAddrA 2 1 (.tmp 4) (.const (.int .i64 1))), (some (31, false)), [8]⟩,
 ⟨(some 33), (.load false 1 (.tmp 32)), (some (31, false)), [9, 8]⟩,
 ⟨(some 34), (.bin .lss (.tmp 33) (.const (.int .i64 0))), (some (31, false)), [10, 8]⟩,
 ⟨(some 35), (.pick (.tmp 31) (.const (.bool true)) (.tmp 34)), none, [8, 11]⟩,
 ⟨(some 36), (.move (.tmp 35)), none, [12, 8]⟩,
 ⟨(some 37), (.indexAddrA 2 1 (.tmp 4) (.const (.int .i64 1))), (some (36, false)), [13]⟩,
 ⟨(some 38), (.load false 1 (.tmp 37)), (some (36, false)), [14, 13]⟩,
 ⟨(some 39), (.move (.tmp 0)), (some (36, false)), [13]⟩,
 ⟨(some 40), (.nilCheck (.tmp 39)), (some (36, false)), [16, 13]⟩,
 ⟨(some 41), (.fieldAddr 2 (.tmp 40)), (some (36, false)), [17, 13]⟩,
 ⟨(some 42), (.load false 1 (.tmp 41)), (some (36, false)), [18, 13]⟩,
 ⟨(some 43), (.lenS (.tmp 42)), (some (36, false)), [19, 13]⟩,
 ⟨(some 44), (.bin .sub (.tmp 43) (.const (.int .i64 1))), (some (36, false)), [20, 13]⟩,
 ⟨(some 45), (.bin .geq (.tmp 38) (.tmp 44)), (some (36, false)), [15, 21, 13]⟩,
 ⟨(some 46), (.pick (.tmp 36) (.const (.bool true)) (.tmp 45)), none, [13, 22]⟩]
@[go_sem ↓] theorem op32_23_run {K : AExit → Fr → Store → Prop} {fr : Fr} {σ : Store} : wp Try.prog (.reg op32_23 true [0, 2, 4, 6, 8, 9, 46]) K fr σ = wpOpsD Try.prog (Kreg [0, 2, 4, 6, 8, 9, 46] K) op32_23 (Fr.get fr) σ := wp_draw (by kernel_rfl)
def op32_48 : List AOper := [
 ⟨(some 48), (.move (.tmp 0)), none, []⟩,
 ⟨(some 49), (.nilCheck (.tmp 48)), none, [0]⟩,
 ⟨(some 50), (.fieldAddr 0 (.tmp 49)), none, [1]⟩,
 ⟨(some 51), (.load true 2 (.tmp 50)), none, [2]⟩,
 ⟨(some 52), (.move (.tmp 0)), none, []⟩,
 ⟨(some 53), (.nilCheck (.tmp 52)), none, [4]⟩,
 ⟨(some 54), (.fieldAddr 3 (.tmp 53)), none, [5]⟩,
 ⟨(some 55), (.load false 1 (.tmp 54)), none, [6]⟩,
 ⟨(some 56), (.move (.tmp 0)), none, []⟩,
 ⟨(some 57), (.nilCheck (.tmp 56)), none, [8]⟩,
 ⟨(some 58), (.fieldAddr 4 (.tmp 57)), none, [9]⟩,
 ⟨(some 59), (.load false 1 (.tmp 58)), none, [10]⟩,
 ⟨(some 60), (.indexAddrA 2 1 (.tmp 4) (.const (.int .i64 1))), none, []⟩,
 ⟨(some 61), (.load false 1 (.tmp 60)), none, [12]⟩,
 ⟨(some 62), (.bin .add (.tmp 61) (.const (.int .i64 1))), none, [13]⟩,
 ⟨(some 63), (.indexAddrS 1 (.tmp 59) (.tmp 62)), none, [11, 14]⟩,
 ⟨(some 64), (.load false 1 (.tmp 63)), none, [15]⟩,
 ⟨(some 65), (.move (.tmp 8)), none, []⟩,
 ⟨(some 66), (.callF 58 [(.tmp 51), (.tmp 55), (.tmp 64), (.tmp 65)]), none, [3, 7, 16, 17]⟩,
 ⟨(some 11), (.move (.tmp 66)), none, [18, 18, 0, 1, 2, 3, 4, 5, 6, 7, 8, 9, 10, 11, 12, 13, 14, 15, 16, 17, 18]⟩]
@[go_sem ↓] theorem op32_48_run {K : AExit → Fr → Store → Prop} {fr : Fr} {σ : Store} : wp Try.prog (.reg op32_48 true [0, 2, 4, 6, 9, 11]) K fr σ = wpOpsD Try.prog (Kreg [0, 2, 4, 6, 9, 11] K) op32_48 (Fr.get fr) σ := wp_draw (by kernel_rfl)
def op32_79 : List AOper := [
 ⟨(some 79), (.move (.tmp 0)), none, []⟩,
 ⟨(some 80), (.nilCheck (.tmp 79)), none, [0]⟩,
 ⟨(some 81), (.fieldAddr 2 (.tmp 80)), none, [1]⟩,
 ⟨(some 82), (.load false 1 (.tmp 81)), none, [2]⟩,
 ⟨(some 83), (.move (.tmp 9)), none, []⟩,
 ⟨(some 84), (.indexAddrA 2 1 (.tmp 4) (.const (.int .i64 1))), none, []⟩,
 ⟨(some 85), (.load false 1 (.tmp 84)), none, [5]⟩,
 ⟨(some 86), (.build [(.sc (.int .i64 0)), (.sc (.int .i64 0))] [(0, 1, (.tmp 83)), (1, 1, (.tmp 85))]), none, [4, 6]⟩,
 ⟨(some 87), (.callF 57 [(.tmp 82), (.tmp 86)]), none, [3, 7]⟩,
 ⟨none, (.store 2 (.tmp 6) (.tmp 87)), none, [8, 8, 0, 1, 2, 3, 4, 5, 6, 7, 8]⟩,
 ⟨(some 7), (.move (.const (.bool true))), none, [9, 0, 1, 2, 3, 4, 5, 6, 7, 8, 9]⟩]
@[go_sem ↓] theorem op32_79_run {K : AExit → Fr → Store → Prop} {fr : Fr} {σ : Store} : wp Try.prog (.reg op32_79 true [6, 7]) K fr σ = wpOpsD Try.prog (Kreg [6, 7] K) op32_79 (Fr.get fr) σ := wp_draw (by kernel_rfl)
def ac32 : ACode :=
 (.seq
 (.reg [
 ⟨(some 4), (.box (.tmp 1)), none, []⟩,
 ⟨(some 6), (.alloc [(.sc (.int .i64 0)), (.sc (.int .i64 0))]), none, []⟩,
 ⟨(some 7), (.move (.const (.bool false))), none, []⟩] false [0, 2, 4, 6])
 (.seq
 (.reg [
 ⟨(some 14), (.move (.tmp 0)), none, []⟩,
 ⟨(some 15), (.nilCheck (.tmp 14)), none, []⟩,
 ⟨(some 16), (.fieldAddr 0 (.tmp 15)), none, []⟩,
 ⟨(some 17), (.load true 2 (.tmp 16)), none, []⟩,
 ⟨(some 18), (.move (.tmp 2)), none, []⟩,
 ⟨(some 19), (.callF 16 [(.tmp 17), (.tmp 18)]), none, []⟩,
 ⟨(some 13), (.move (.tmp 19)), none, []⟩,
 ⟨(some 20), (.extract (.tmp 13) 0), none, []⟩,
 ⟨(some 21), (.extract (.tmp 13) 1), none, []⟩,
 ⟨(some 22), (.extract (.tmp 13) 2), none, []⟩,
 ⟨(some 8), (.move (.tmp 20)), none, []⟩,
 ⟨(some 9), (.move (.tmp 21)), none, []⟩,
 ⟨(some 10), (.move (.tmp 22)), none, []⟩] false [0, 2, 4, 6, 8, 9, 10])
 (.seq
 (.seq
 (.reg op32_23 true [0, 2, 4, 6, 8, 9, 46])
 (.cond (.tmp 46)
 (.seq
 (.reg [
 ⟨(some 47), (.build [(.sc (.int .i64 0)), (.sc (.int .i64 0))] []), none, []⟩,
 ⟨none, (.store 2 (.tmp 6) (.tmp 47)), none, []⟩,
 ⟨(some 7), (.move (.const (.bool false))), none, []⟩] false [6, 7])
 .ret)
 .skip))
 (.seq
 (.reg op32_48 true [0, 2, 4, 6, 9, 11])
 (.seq
 (.seq
 (.reg [
 ⟨(some 12), (.move (.const (.int .i64 0))), none, []⟩] false [0, 2, 4, 6, 9, 11, 12])
 (.block 0
 (.loop
 (.seq
 (.seq
 (.reg [
 ⟨(some 67), (.move (.tmp 12)), none, []⟩,
 ⟨(some 68), (.move (.tmp 11)), none, []⟩,
 ⟨(some 69), (.lenS (.tmp 68)), none, []⟩,
 ⟨(some 70), (.bin .lss (.tmp 67) (.tmp 69)), none, []⟩] false [0, 2, 4, 6, 9, 11, 12, 70])
 (.cond (.tmp 70)
 .skip
 (.exit 0)))
 (.seq
 (.block 1
 (.seq
 (.reg [
 ⟨(some 73), (.move (.tmp 11)), none, []⟩,
 ⟨(some 74), (.move (.tmp 12)), none, []⟩,
 ⟨(some 75), (.indexAddrS 1 (.tmp 73) (.tmp 74)), none, []⟩,
 ⟨(some 76), (.load false 1 (.tmp 75)), none, []⟩,
 ⟨(some 77), (.move (.tmp 2)), none, []⟩,
 ⟨(some 78), (.bin .eql (.tmp 76) (.tmp 77)), none, []⟩] false [0, 2, 4, 6, 9, 11, 12, 78])
 (.cond (.tmp 78)
 (.seq
 (.reg op32_79 true [6, 7])
 .ret)
 .skip)))
 (.reg [
 ⟨(some 71), (.move (.tmp 12)), none, []⟩,
 ⟨(some 72), (.bin .add (.tmp 71) (.const (.int .i64 1))), none, []⟩,
 ⟨(some 12), (.move (.tmp 72)), none, []⟩] false [0, 2, 4, 6, 9, 11, 12]))))))
 (.seq
 (.reg [
 ⟨(some 88), (.build [(.sc (.int .i64 0)), (.sc (.int .i64 0))] []), none, []⟩,
 ⟨none, (.store 2 (.tmp 6) (.tmp 88)), none, []⟩,
 ⟨(some 7), (.move (.const (.bool false))), none, []⟩] false [6, 7])
 .ret))))))
-- simp set: ac32, op32_23, op32_48, op32_79
theorem isF32 : IsFunc Try.prog 32 3 ac32 [.cell 6 true 2, .tmp 7] := isFunc_of _ [(0, [0, 2, 4, 6]), (1, [0, 2, 4, 6, 8, 9, 10]), (2, [0, 2, 4, 6, 8, 9, 46]), (3, [6, 7]), (4, [0, 2, 4, 6, 9, 11]), (5, [0, 2, 4, 6, 9, 11, 12]), (6, [0, 2, 4, 6, 9, 11, 12, 70]), (8, [0, 2, 4, 6, 9, 11, 12, 78]), (9, [6, 7]), (7, [0, 2, 4, 6, 9, 11, 12]), (10, [6, 7])] Try.func32 (by kernel_rfl)
/-- waymark/waymarkref15.Goal; loop heads: [] -/
def ac33 : ACode :=
 (.seq
 (.reg [
 ⟨(some 1), (.box (.tmp 0)), none, []⟩,
 ⟨(some 2), (.alloc [(.sc (.int .i64 0)), (.sc (.int .i64 0))]), none, []⟩] false [1, 2])
 (.seq
 (.reg [
 ⟨(some 3), (.fieldAddr 1 (.tmp 1)), none, []⟩,
 ⟨(some 4), (.load false 1 (.tmp 3)), none, []⟩,
 ⟨(some 5), (.fieldAddr 3 (.tmp 1)), none, []⟩,
 ⟨(some 6), (.load false 1 (.tmp 5)), none, []⟩,
 ⟨(some 7), (.lenS (.tmp 6)), none, []⟩,
 ⟨(some 8), (.bin .add (.tmp 7) (.const (.int .i64 1))), none, []⟩,
 ⟨(some 9), (.build [(.sc (.int .i64 0)), (.sc (.int .i64 0))] [(0, 1, (.tmp 4)), (1, 1, (.tmp 8))]), none, []⟩,
 ⟨none, (.store 2 (.tmp 2) (.tmp 9)), none, []⟩] false [2])
 .ret))
-- simp set: ac33
theorem isF33 : IsFunc Try.prog 33 1 ac33 [.cell 2 true 2] := isFunc_of _ [(0, [1, 2]), (1, [2])] Try.func33 (by kernel_rfl)
/-- waymark/waymarkref1.SameInts; loop heads: [[0, 1, 5]] -/
def op34_17 : List AOper := [
 ⟨(some 17), (.move (.tmp 0)), none, []⟩,
 ⟨(some 18), (.move (.tmp 5)), none, []⟩,
 ⟨(some 19), (.indexAddrS 1 (.tmp 17) (.tmp 18)), none, [0, 1]⟩,
 ⟨(some 20), (.load false 1 (.tmp 19)), none, [2]⟩,
 ⟨(some 21), (.move (.tmp 1)), none, []⟩,
 ⟨(some 22), (.move (.tmp 5)), none, []⟩,
 ⟨(some 23), (.indexAddrS 1 (.tmp 21) (.tmp 22)), none, [4, 5]⟩,
 ⟨(some 24), (.load false 1 (.tmp 23)), none, [6]⟩,
 ⟨(some 25), (.bin .neq (.tmp 20) (.tmp 24)), none, [3, 7]⟩]
@[go_sem ↓] theorem op34_17_run {K : AExit → Fr → Store → Prop} {fr : Fr} {σ : Store} : wp Try.prog (.reg op34_17 true [0, 1, 5, 25]) K fr σ = wpOpsD Try.prog (Kreg [0, 1, 5, 25] K) op34_17 (Fr.get fr) σ := wp_draw (by kernel_rfl)
def ac34 : ACode :=
 (.seq
 (.reg [
 ⟨(some 4), (.move (.const (.bool false))), none, []⟩] false [0, 1])
 (.seq
 (.seq
 (.reg [
 ⟨(some 6), (.move (.tmp 0)), none, []⟩,
 ⟨(some 7), (.lenS (.tmp 6)), none, []⟩,
 ⟨(some 8), (.move (.tmp 1)), none, []⟩,
 ⟨(some 9), (.lenS (.tmp 8)), none, []⟩,
 ⟨(some 10), (.bin .neq (.tmp 7) (.tmp 9)), none, []⟩] false [0, 1, 10])
 (.cond (.tmp 10)
 (.seq
 (.reg [
 ⟨(some 4), (.move (.const (.bool false))), none, []⟩] false [4])
 .ret)
 .skip))
 (.seq
 (.seq
 (.reg [
 ⟨(some 5), (.move (.const (.int .i64 0))), none, []⟩] false [0, 1, 5])
 (.block 0
 (.loop
 (.seq
 (.seq
 (.reg [
 ⟨(some 11), (.move (.tmp 5)), none, []⟩,
 ⟨(some 12), (.move (.tmp 0)), none, []⟩,
 ⟨(some 13), (.lenS (.tmp 12)), none, []⟩,
 ⟨(some 14), (.bin .lss (.tmp 11) (.tmp 13)), none, []⟩] false [0, 1, 5, 14])
 (.cond (.tmp 14)
 .skip
 (.exit 0)))
 (.seq
 (.block 1
 (.seq
 (.reg op34_17 true [0, 1, 5, 25])
 (.cond (.tmp 25)
 (.seq
 (.reg [
 ⟨(some 4), (.move (.const (.bool false))), none, []⟩] false [4])
 .ret)
 .skip)))
 (.reg [
 ⟨(some 15), (.move (.tmp 5)), none, []⟩,
 ⟨(some 16), (.bin .add (.tmp 15) (.const (.int .i64 1))), none, []⟩,
 ⟨(some 5), (.move (.tmp 16)), none, []⟩] false [0, 1, 5]))))))
 (.seq
 (.reg [
 ⟨(some 4), (.move (.const (.bool true))), none, []⟩] false [4])
 .ret))))
-- simp set: ac34, op34_17
theorem isF34 : IsFunc Try.prog 34 2 ac34 [.tmp 4] := isFunc_of _ [(0, [0, 1]), (1, [0, 1, 10]), (2, [4]), (3, [0, 1, 5]), (4, [0, 1, 5, 14]), (6, [0, 1, 5, 25]), (7, [4]), (5, [0, 1, 5]), (8, [4])] Try.func34 (by kernel_rfl)
/-- waymark/graph.Check; loop heads: [[1, 22, 23, 24]] -/
def ac35 : ACode :=
 (.seq
 (.reg [
 ⟨(some 1), (.box (.tmp 0)), none, []⟩,
 ⟨(some 2), (.move (.const (.int .i64 0))), none, []⟩,
 ⟨(some 3), (.move (.const (.int .i64 0))), none, []⟩] false [1])
 (.seq
 (.block 0
 (.seq
 (.reg [
 ⟨(some 8), (.fieldAddr 1 (.tmp 1)), none, []⟩,
 ⟨(some 9), (.load false 1 (.tmp 8)), none, []⟩,
 ⟨(some 10), (.lenS (.tmp 9)), none, []⟩,
 ⟨(some 11), (.bin .gtr (.tmp 10) (.const (.int .i64 120))), none, []⟩,
 ⟨(some 7), (.move (.tmp 11)), none, []⟩] false [1, 7])
 (.cond (.tmp 7)
 (.seq
 (.reg [
 ⟨(some 2), (.move (.const (.int .i64 (-1)))), none, []⟩,
 ⟨(some 3), (.move (.const (.int .i64 6))), none, []⟩] false [2, 3])
 .ret)
 (.seq
 (.reg [
 ⟨(some 13), (.fieldAddr 0 (.tmp 1)), none, []⟩,
 ⟨(some 14), (.load false 1 (.tmp 13)), none, []⟩,
 ⟨(some 15), (.bin .lss (.tmp 14) (.const (.int .i64 1))), none, []⟩,
 ⟨(some 16), (.move (.tmp 15)), none, []⟩,
 ⟨(some 17), (.fieldAddr 0 (.tmp 1)), (some (16, false)), []⟩,
 ⟨(some 18), (.load false 1 (.tmp 17)), (some (16, false)), []⟩,
 ⟨(some 19), (.bin .gtr (.tmp 18) (.const (.int .i64 40))), (some (16, false)), []⟩,
 ⟨(some 20), (.pick (.tmp 16) (.const (.bool true)) (.tmp 19)), none, []⟩,
 ⟨(some 12), (.move (.tmp 20)), none, []⟩] false [1, 12])
 (.cond (.tmp 12)
 (.seq
 (.reg [
 ⟨(some 2), (.move (.const (.int .i64 (-1)))), none, []⟩,
 ⟨(some 3), (.move (.const (.int .i64 1))), none, []⟩] false [2, 3])
 .ret)
 .skip)))))
 (.seq
 (.seq
 (.reg [
 ⟨(some 21), (.fieldAddr 1 (.tmp 1)), none, []⟩,
 ⟨(some 22), (.load false 1 (.tmp 21)), none, []⟩,
 ⟨(some 23), (.lenS (.tmp 22)), none, []⟩,
 ⟨(some 24), (.move (.const (.int .i64 0))), none, []⟩] false [1, 22, 23, 24])
 (.block 1
 (.loop
 (.seq
 (.reg [
 ⟨(some 25), (.bin .lss (.tmp 24) (.tmp 23)), none, []⟩] false [1, 22, 23, 24, 25])
 (.seq
 (.cond (.tmp 25)
 .skip
 (.exit 1))
 (.seq
 (.block 2
 (.seq
 (.reg [
 ⟨(some 26), (.move (.tmp 24)), none, []⟩,
 ⟨(some 27), (.indexAddrS 4 (.tmp 22) (.tmp 24)), none, []⟩,
 ⟨(some 28), (.load true 4 (.tmp 27)), none, []⟩,
 ⟨(some 5), (.alloc [(.sc (.int .i64 0)), (.sc (.int .i64 0)), (.sc (.int .i64 0)), (.sc (.int .i64 0))]), none, []⟩,
 ⟨(some 4), (.move (.tmp 26)), none, []⟩,
 ⟨none, (.store 4 (.tmp 5) (.tmp 28)), none, []⟩] false [1, 4, 5, 22, 23, 24])
 (.seq
 (.reg [
 ⟨(some 29), (.load true 2 (.tmp 1)), none, []⟩,
 ⟨(some 30), (.load true 4 (.tmp 5)), none, []⟩,
 ⟨(some 31), (.callF 59 [(.tmp 29), (.tmp 30)]), none, []⟩,
 ⟨(some 6), (.move (.tmp 31)), none, []⟩] false [1, 4, 6, 22, 23, 24])
 (.seq
 (.reg [
 ⟨(some 32), (.move (.tmp 6)), none, []⟩,
 ⟨(some 33), (.bin .neq (.tmp 32) (.const (.int .i64 0))), none, []⟩] false [1, 4, 6, 22, 23, 24, 33])
 (.cond (.tmp 33)
 (.seq
 (.reg [
 ⟨(some 34), (.move (.tmp 4)), none, []⟩,
 ⟨(some 35), (.move (.tmp 6)), none, []⟩,
 ⟨(some 2), (.move (.tmp 34)), none, []⟩,
 ⟨(some 3), (.move (.tmp 35)), none, []⟩] false [2, 3])
 .ret)
 .skip)))))
 (.reg [
 ⟨(some 36), (.bin .add (.tmp 24) (.const (.int .i64 1))), none, []⟩,
 ⟨(some 24), (.move (.tmp 36)), none, []⟩] false [1, 22, 23, 24])))))))
 (.seq
 (.reg [
 ⟨(some 2), (.move (.const (.int .i64 (-1)))), none, []⟩,
 ⟨(some 3), (.move (.const (.int .i64 0))), none, []⟩] false [2, 3])
 .ret))))
-- simp set: ac35
theorem isF35 : IsFunc Try.prog 35 1 ac35 [.tmp 2, .tmp 3] := isFunc_of _ [(0, [1]), (1, [1, 7]), (2, [2, 3]), (3, [1, 12]), (4, [2, 3]), (5, [1, 22, 23, 24]), (6, [1, 22, 23, 24, 25]), (7, [1, 4, 5, 22, 23, 24]), (8, [1, 4, 6, 22, 23, 24]), (9, [1, 4, 6, 22, 23, 24, 33]), (10, [2, 3]), (11, [1, 22, 23, 24]), (12, [2, 3])] Try.func35 (by kernel_rfl)
/-- slices.Clone[[]waymark/api.Link,waymark/api.Link]; loop heads: [] -/
def ac36 : ACode :=
 (.seq
 (.reg [
 ⟨(some 2), (.move (.const (.slice none 0 0))), none, []⟩] false [0])
 (.seq
 (.seq
 (.reg [
 ⟨(some 3), (.move (.tmp 0)), none, []⟩,
 ⟨(some 4), (.eqSl false (.tmp 3) (.const (.slice none 0 0))), none, []⟩] false [0, 4])
 (.cond (.tmp 4)
 (.seq
 (.reg [
 ⟨(some 2), (.move (.const (.slice none 0 0))), none, []⟩] false [2])
 .ret)
 .skip))
 (.seq
 (.reg [
 ⟨(some 5), (.buildSlice 4 0 [(.sc (.int .i64 0)), (.sc (.int .i64 0)), (.sc (.int .i64 0)), (.sc (.int .i64 0))] []), none, []⟩,
 ⟨(some 6), (.move (.tmp 0)), none, []⟩,
 ⟨(some 7), (.append 4 32 [(.sc (.int .i64 0)), (.sc (.int .i64 0)), (.sc (.int .i64 0)), (.sc (.int .i64 0))] (.tmp 5) (.tmp 6)), none, []⟩,
 ⟨(some 2), (.move (.tmp 7)), none, []⟩] false [2])
 .ret)))
-- simp set: ac36
theorem isF36 : IsFunc Try.prog 36 1 ac36 [.tmp 2] := isFunc_of _ [(0, [0]), (1, [0, 4]), (2, [2]), (3, [2])] Try.func36 (by kernel_rfl)
/-- waymark/spf.To; loop heads: [] -/
def ac37 : ACode :=
 (.seq
 (.reg [
 ⟨(some 3), (.box (.tmp 0)), none, []⟩,
 ⟨(some 6), (.move (.const (.slice none 0 0))), none, []⟩] false [1, 2, 3])
 (.seq
 (.reg [
 ⟨(some 7), (.load true 2 (.tmp 3)), none, []⟩,
 ⟨(some 8), (.move (.tmp 1)), none, []⟩,
 ⟨(some 9), (.move (.tmp 2)), none, []⟩,
 ⟨(some 10), (.callF 60 [(.tmp 7), (.tmp 8), (.tmp 9)]), none, []⟩,
 ⟨(some 6), (.move (.tmp 10)), none, []⟩] false [6])
 .ret))
-- simp set: ac37
theorem isF37 : IsFunc Try.prog 37 3 ac37 [.tmp 6] := isFunc_of _ [(0, [1, 2, 3]), (1, [6])] Try.func37 (by kernel_rfl)
/-- waymark/spf.Next; loop heads: [[1, 2, 3, 4, 9, 40, 41, 42]] -/
def op38_53 : List AOper := [
 ⟨(some 53), (.move (.tmp 1)), none, []⟩,
 ⟨(some 54), (.move (.tmp 11)), none, []⟩,
 ⟨(some 55), (.callF 51 [(.tmp 53), (.tmp 54)]), none, [0, 1]⟩,
 ⟨(some 56), (.move (.tmp 55)), none, [2, 2]⟩,
 ⟨(some 57), (.move (.tmp 2)), (some (56, true)), [3]⟩,
 ⟨(some 58), (.move (.tmp 13)), (some (56, true)), [3]⟩,
 ⟨(some 59), (.indexAddrS 1 (.tmp 57) (.tmp 58)), (some (56, true)), [4, 5, 3]⟩,
 ⟨(some 60), (.load false 1 (.tmp 59)), (some (56, true)), [6, 3]⟩,
 ⟨(some 61), (.bin .geq (.tmp 60) (.const (.int .i64 0))), (some (56, true)), [7, 3]⟩,
 ⟨(some 62), (.pick (.tmp 56) (.tmp 61) (.const (.bool false))), none, [3, 8]⟩,
 ⟨(some 63), (.move (.tmp 62)), none, [9, 3]⟩,
 ⟨(some 64), (.move (.tmp 2)), (some (63, true)), [10]⟩,
 ⟨(some 65), (.move (.tmp 3)), (some (63, true)), [10]⟩,
 ⟨(some 66), (.indexAddrS 1 (.tmp 64) (.tmp 65)), (some (63, true)), [11, 12, 10]⟩,
 ⟨(some 67), (.load false 1 (.tmp 66)), (some (63, true)), [13, 10]⟩,
 ⟨(some 68), (.fieldAddr 1 (.tmp 4)), (some (63, true)), [10]⟩,
 ⟨(some 69), (.load false 1 (.tmp 68)), (some (63, true)), [15, 10]⟩,
 ⟨(some 70), (.move (.tmp 11)), (some (63, true)), [10]⟩,
 ⟨(some 71), (.bin .quo (.tmp 70) (.const (.int .i64 2))), (some (63, true)), [17, 10]⟩,
 ⟨(some 72), (.indexAddrS 4 (.tmp 69) (.tmp 71)), (some (63, true)), [16, 18, 10]⟩,
 ⟨(some 73), (.fieldAddr 2 (.tmp 72)), (some (63, true)), [19, 10]⟩,
 ⟨(some 74), (.load false 1 (.tmp 73)), (some (63, true)), [20, 10]⟩,
 ⟨(some 75), (.bin .sub (.tmp 67) (.tmp 74)), (some (63, true)), [14, 21, 10]⟩,
 ⟨(some 76), (.move (.tmp 2)), (some (63, true)), [10]⟩,
 ⟨(some 77), (.move (.tmp 13)), (some (63, true)), [10]⟩,
 ⟨(some 78), (.indexAddrS 1 (.tmp 76) (.tmp 77)), (some (63, true)), [23, 24, 10]⟩,
 ⟨(some 79), (.load false 1 (.tmp 78)), (some (63, true)), [25, 10]⟩,
 ⟨(some 80), (.bin .eql (.tmp 75) (.tmp 79)), (some (63, true)), [22, 26, 10]⟩,
 ⟨(some 81), (.pick (.tmp 63) (.tmp 80) (.const (.bool false))), none, [10, 27]⟩]
@[go_sem ↓] theorem op38_53_run {K : AExit → Fr → Store → Prop} {fr : Fr} {σ : Store} : wp Try.prog (.reg op38_53 true [1, 2, 3, 4, 9, 11, 40, 41, 42, 81]) K fr σ = wpOpsD Try.prog (Kreg [1, 2, 3, 4, 9, 11, 40, 41, 42, 81] K) op38_53 (Fr.get fr) σ := wp_draw (by kernel_rfl)
def ac38 : ACode :=
 (.seq
 (.reg [
 ⟨(some 4), (.box (.tmp 0)), none, []⟩,
 ⟨(some 8), (.move (.const (.slice none 0 0))), none, []⟩] false [1, 2, 3, 4])
 (.seq
 (.seq
 (.reg [
 ⟨(some 15), (.load true 2 (.tmp 4)), none, []⟩,
 ⟨(some 16), (.callF 61 [(.tmp 15)]), none, []⟩,
 ⟨(some 17), (.un .not (.tmp 16)), none, []⟩,
 ⟨(some 18), (.move (.tmp 17)), none, []⟩,
 ⟨(some 19), (.move (.tmp 2)), (some (18, false)), []⟩,
 ⟨(some 20), (.lenS (.tmp 19)), (some (18, false)), []⟩,
 ⟨(some 21), (.fieldAddr 0 (.tmp 4)), (some (18, false)), []⟩,
 ⟨(some 22), (.load false 1 (.tmp 21)), (some (18, false)), []⟩,
 ⟨(some 23), (.bin .neq (.tmp 20) (.tmp 22)), (some (18, false)), []⟩,
 ⟨(some 24), (.pick (.tmp 18) (.const (.bool true)) (.tmp 23)), none, []⟩,
 ⟨(some 25), (.move (.tmp 24)), none, []⟩,
 ⟨(some 26), (.load true 2 (.tmp 4)), (some (25, false)), []⟩,
 ⟨(some 27), (.move (.tmp 3)), (some (25, false)), []⟩,
 ⟨(some 28), (.callF 28 [(.tmp 26), (.tmp 27)]), (some (25, false)), []⟩,
 ⟨(some 29), (.un .not (.tmp 28)), (some (25, false)), []⟩,
 ⟨(some 30), (.pick (.tmp 25) (.const (.bool true)) (.tmp 29)), none, []⟩,
 ⟨(some 31), (.move (.tmp 30)), none, []⟩,
 ⟨(some 32), (.move (.tmp 2)), (some (31, false)), []⟩,
 ⟨(some 33), (.move (.tmp 3)), (some (31, false)), []⟩,
 ⟨(some 34), (.indexAddrS 1 (.tmp 32) (.tmp 33)), (some (31, false)), []⟩,
 ⟨(some 35), (.load false 1 (.tmp 34)), (some (31, false)), []⟩,
 ⟨(some 36), (.bin .leq (.tmp 35) (.const (.int .i64 0))), (some (31, false)), []⟩,
 ⟨(some 37), (.pick (.tmp 31) (.const (.bool true)) (.tmp 36)), none, []⟩] false [1, 2, 3, 4, 37])
 (.cond (.tmp 37)
 (.seq
 (.reg [
 ⟨(some 8), (.move (.const (.slice none 0 0))), none, []⟩] false [8])
 .ret)
 .skip))
 (.seq
 (.reg [
 ⟨(some 9), (.move (.const (.slice none 0 0))), none, []⟩] false [1, 2, 3, 4, 9])
 (.seq
 (.seq
 (.reg [
 ⟨(some 38), (.load true 2 (.tmp 4)), none, []⟩,
 ⟨(some 39), (.move (.tmp 3)), none, []⟩,
 ⟨(some 40), (.callF 62 [(.tmp 38), (.tmp 39)]), none, []⟩,
 ⟨(some 41), (.lenS (.tmp 40)), none, []⟩,
 ⟨(some 42), (.move (.const (.int .i64 0))), none, []⟩] false [1, 2, 3, 4, 9, 40, 41, 42])
 (.block 0
 (.loop
 (.seq
 (.reg [
 ⟨(some 43), (.bin .lss (.tmp 42) (.tmp 41)), none, []⟩] false [1, 2, 3, 4, 9, 40, 41, 42, 43])
 (.seq
 (.cond (.tmp 43)
 .skip
 (.exit 0))
 (.seq
 (.block 1
 (.seq
 (.reg [
 ⟨(some 44), (.indexAddrS 1 (.tmp 40) (.tmp 42)), none, []⟩,
 ⟨(some 45), (.load false 1 (.tmp 44)), none, []⟩,
 ⟨(some 11), (.move (.tmp 45)), none, []⟩] false [1, 2, 3, 4, 9, 11, 40, 41, 42])
 (.seq
 (.reg [
 ⟨(some 47), (.load true 2 (.tmp 4)), none, []⟩,
 ⟨(some 48), (.move (.tmp 11)), none, []⟩,
 ⟨(some 49), (.callF 63 [(.tmp 47), (.tmp 48)]), none, []⟩,
 ⟨(some 46), (.move (.tmp 49)), none, []⟩,
 ⟨(some 50), (.extract (.tmp 46) 0), none, []⟩,
 ⟨(some 51), (.extract (.tmp 46) 1), none, []⟩,
 ⟨(some 52), (.extract (.tmp 46) 2), none, []⟩,
 ⟨(some 12), (.move (.tmp 50)), none, []⟩,
 ⟨(some 13), (.move (.tmp 51)), none, []⟩,
 ⟨(some 14), (.move (.tmp 52)), none, []⟩] false [1, 2, 3, 4, 9, 11, 13, 40, 41, 42])
 (.seq
 (.reg op38_53 true [1, 2, 3, 4, 9, 11, 40, 41, 42, 81])
 (.cond (.tmp 81)
 (.reg [
 ⟨(some 82), (.move (.tmp 9)), none, []⟩,
 ⟨(some 83), (.move (.tmp 11)), none, []⟩,
 ⟨(some 84), (.buildSlice 1 1 [(.sc (.int .i64 0))] [(0, (.tmp 83))]), none, []⟩,
 ⟨(some 85), (.append 1 8 [(.sc (.int .i64 0))] (.tmp 82) (.tmp 84)), none, []⟩,
 ⟨(some 9), (.move (.tmp 85)), none, []⟩] false [1, 2, 3, 4, 9, 40, 41, 42])
 .skip)))))
 (.reg [
 ⟨(some 86), (.bin .add (.tmp 42) (.const (.int .i64 1))), none, []⟩,
 ⟨(some 42), (.move (.tmp 86)), none, []⟩] false [1, 2, 3, 4, 9, 40, 41, 42])))))))
 (.seq
 (.reg [
 ⟨(some 87), (.move (.tmp 9)), none, []⟩,
 ⟨(some 8), (.move (.tmp 87)), none, []⟩] false [8])
 .ret)))))
-- simp set: ac38, op38_53
theorem isF38 : IsFunc Try.prog 38 4 ac38 [.tmp 8] := isFunc_of _ [(0, [1, 2, 3, 4]), (1, [1, 2, 3, 4, 37]), (2, [8]), (3, [1, 2, 3, 4, 9]), (4, [1, 2, 3, 4, 9, 40, 41, 42]), (5, [1, 2, 3, 4, 9, 40, 41, 42, 43]), (6, [1, 2, 3, 4, 9, 11, 40, 41, 42]), (7, [1, 2, 3, 4, 9, 11, 13, 40, 41, 42]), (8, [1, 2, 3, 4, 9, 11, 40, 41, 42, 81]), (9, [1, 2, 3, 4, 9, 40, 41, 42]), (10, [1, 2, 3, 4, 9, 40, 41, 42]), (11, [8])] Try.func38 (by kernel_rfl)
/-- waymark/waymarkref1.Check; loop heads: [[1, 4]] -/
def ac39 : ACode :=
 (.seq
 (.reg [
 ⟨(some 1), (.box (.tmp 0)), none, []⟩,
 ⟨(some 2), (.move (.const (.int .i64 0))), none, []⟩,
 ⟨(some 3), (.move (.const (.int .i64 0))), none, []⟩] false [1])
 (.seq
 (.seq
 (.reg [
 ⟨(some 6), (.fieldAddr 1 (.tmp 1)), none, []⟩,
 ⟨(some 7), (.load false 1 (.tmp 6)), none, []⟩,
 ⟨(some 8), (.lenS (.tmp 7)), none, []⟩,
 ⟨(some 9), (.bin .gtr (.tmp 8) (.const (.int .i64 120))), none, []⟩] false [1, 9])
 (.cond (.tmp 9)
 (.seq
 (.reg [
 ⟨(some 2), (.move (.const (.int .i64 (-1)))), none, []⟩,
 ⟨(some 3), (.move (.const (.int .i64 6))), none, []⟩] false [2, 3])
 .ret)
 .skip))
 (.seq
 (.seq
 (.reg [
 ⟨(some 10), (.fieldAddr 0 (.tmp 1)), none, []⟩,
 ⟨(some 11), (.load false 1 (.tmp 10)), none, []⟩,
 ⟨(some 12), (.bin .lss (.tmp 11) (.const (.int .i64 1))), none, []⟩,
 ⟨(some 13), (.move (.tmp 12)), none, []⟩,
 ⟨(some 14), (.fieldAddr 0 (.tmp 1)), (some (13, false)), []⟩,
 ⟨(some 15), (.load false 1 (.tmp 14)), (some (13, false)), []⟩,
 ⟨(some 16), (.bin .gtr (.tmp 15) (.const (.int .i64 40))), (some (13, false)), []⟩,
 ⟨(some 17), (.pick (.tmp 13) (.const (.bool true)) (.tmp 16)), none, []⟩] false [1, 17])
 (.cond (.tmp 17)
 (.seq
 (.reg [
 ⟨(some 2), (.move (.const (.int .i64 (-1)))), none, []⟩,
 ⟨(some 3), (.move (.const (.int .i64 1))), none, []⟩] false [2, 3])
 .ret)
 .skip))
 (.seq
 (.seq
 (.reg [
 ⟨(some 4), (.move (.const (.int .i64 0))), none, []⟩] false [1, 4])
 (.block 0
 (.loop
 (.seq
 (.seq
 (.reg [
 ⟨(some 18), (.move (.tmp 4)), none, []⟩,
 ⟨(some 19), (.fieldAddr 1 (.tmp 1)), none, []⟩,
 ⟨(some 20), (.load false 1 (.tmp 19)), none, []⟩,
 ⟨(some 21), (.lenS (.tmp 20)), none, []⟩,
 ⟨(some 22), (.bin .lss (.tmp 18) (.tmp 21)), none, []⟩] false [1, 4, 22])
 (.cond (.tmp 22)
 .skip
 (.exit 0)))
 (.seq
 (.block 1
 (.seq
 (.reg [
 ⟨(some 25), (.fieldAddr 1 (.tmp 1)), none, []⟩,
 ⟨(some 26), (.load false 1 (.tmp 25)), none, []⟩,
 ⟨(some 27), (.move (.tmp 4)), none, []⟩,
 ⟨(some 28), (.indexAddrS 4 (.tmp 26) (.tmp 27)), none, []⟩,
 ⟨(some 29), (.load true 4 (.tmp 28)), none, []⟩,
 ⟨(some 5), (.alloc [(.sc (.int .i64 0)), (.sc (.int .i64 0)), (.sc (.int .i64 0)), (.sc (.int .i64 0))]), none, []⟩,
 ⟨none, (.store 4 (.tmp 5) (.tmp 29)), none, []⟩] false [1, 4, 5])
 (.seq
 (.seq
 (.reg [
 ⟨(some 30), (.fieldAddr 0 (.tmp 5)), none, []⟩,
 ⟨(some 31), (.load false 1 (.tmp 30)), none, []⟩,
 ⟨(some 32), (.bin .lss (.tmp 31) (.const (.int .i64 0))), none, []⟩,
 ⟨(some 33), (.move (.tmp 32)), none, []⟩,
 ⟨(some 34), (.fieldAddr 0 (.tmp 5)), (some (33, false)), []⟩,
 ⟨(some 35), (.load false 1 (.tmp 34)), (some (33, false)), []⟩,
 ⟨(some 36), (.fieldAddr 0 (.tmp 1)), (some (33, false)), []⟩,
 ⟨(some 37), (.load false 1 (.tmp 36)), (some (33, false)), []⟩,
 ⟨(some 38), (.bin .geq (.tmp 35) (.tmp 37)), (some (33, false)), []⟩,
 ⟨(some 39), (.pick (.tmp 33) (.const (.bool true)) (.tmp 38)), none, []⟩,
 ⟨(some 40), (.move (.tmp 39)), none, []⟩,
 ⟨(some 41), (.fieldAddr 1 (.tmp 5)), (some (40, false)), []⟩,
 ⟨(some 42), (.load false 1 (.tmp 41)), (some (40, false)), []⟩,
 ⟨(some 43), (.bin .lss (.tmp 42) (.const (.int .i64 0))), (some (40, false)), []⟩,
 ⟨(some 44), (.pick (.tmp 40) (.const (.bool true)) (.tmp 43)), none, []⟩,
 ⟨(some 45), (.move (.tmp 44)), none, []⟩,
 ⟨(some 46), (.fieldAddr 1 (.tmp 5)), (some (45, false)), []⟩,
 ⟨(some 47), (.load false 1 (.tmp 46)), (some (45, false)), []⟩,
 ⟨(some 48), (.fieldAddr 0 (.tmp 1)), (some (45, false)), []⟩,
 ⟨(some 49), (.load false 1 (.tmp 48)), (some (45, false)), []⟩,
 ⟨(some 50), (.bin .geq (.tmp 47) (.tmp 49)), (some (45, false)), []⟩,
 ⟨(some 51), (.pick (.tmp 45) (.const (.bool true)) (.tmp 50)), none, []⟩,
 ⟨(some 52), (.move (.tmp 51)), none, []⟩,
 ⟨(some 53), (.fieldAddr 0 (.tmp 5)), (some (52, false)), []⟩,
 ⟨(some 54), (.load false 1 (.tmp 53)), (some (52, false)), []⟩,
 ⟨(some 55), (.fieldAddr 1 (.tmp 5)), (some (52, false)), []⟩,
 ⟨(some 56), (.load false 1 (.tmp 55)), (some (52, false)), []⟩,
 ⟨(some 57), (.bin .eql (.tmp 54) (.tmp 56)), (some (52, false)), []⟩,
 ⟨(some 58), (.pick (.tmp 52) (.const (.bool true)) (.tmp 57)), none, []⟩] false [1, 4, 5, 58])
 (.cond (.tmp 58)
 (.seq
 (.reg [
 ⟨(some 59), (.move (.tmp 4)), none, []⟩,
 ⟨(some 2), (.move (.tmp 59)), none, []⟩,
 ⟨(some 3), (.move (.const (.int .i64 4))), none, []⟩] false [2, 3])
 .ret)
 .skip))
 (.seq
 (.reg [
 ⟨(some 60), (.fieldAddr 2 (.tmp 5)), none, []⟩,
 ⟨(some 61), (.load false 1 (.tmp 60)), none, []⟩,
 ⟨(some 62), (.bin .lss (.tmp 61) (.const (.int .i64 1))), none, []⟩,
 ⟨(some 63), (.move (.tmp 62)), none, []⟩,
 ⟨(some 64), (.fieldAddr 2 (.tmp 5)), (some (63, false)), []⟩,
 ⟨(some 65), (.load false 1 (.tmp 64)), (some (63, false)), []⟩,
 ⟨(some 66), (.bin .gtr (.tmp 65) (.const (.int .i64 16777216))), (some (63, false)), []⟩,
 ⟨(some 67), (.pick (.tmp 63) (.const (.bool true)) (.tmp 66)), none, []⟩,
 ⟨(some 68), (.move (.tmp 67)), none, []⟩,
 ⟨(some 69), (.fieldAddr 3 (.tmp 5)), (some (68, false)), []⟩,
 ⟨(some 70), (.load false 1 (.tmp 69)), (some (68, false)), []⟩,
 ⟨(some 71), (.bin .lss (.tmp 70) (.const (.int .i64 0))), (some (68, false)), []⟩,
 ⟨(some 72), (.pick (.tmp 68) (.const (.bool true)) (.tmp 71)), none, []⟩,
 ⟨(some 73), (.move (.tmp 72)), none, []⟩,
 ⟨(some 74), (.fieldAddr 3 (.tmp 5)), (some (73, false)), []⟩,
 ⟨(some 75), (.load false 1 (.tmp 74)), (some (73, false)), []⟩,
 ⟨(some 76), (.bin .gtr (.tmp 75) (.const (.int .i64 62))), (some (73, false)), []⟩,
 ⟨(some 77), (.pick (.tmp 73) (.const (.bool true)) (.tmp 76)), none, []⟩] false [1, 4, 77])
 (.cond (.tmp 77)
 (.seq
 (.reg [
 ⟨(some 78), (.move (.tmp 4)), none, []⟩,
 ⟨(some 2), (.move (.tmp 78)), none, []⟩,
 ⟨(some 3), (.move (.const (.int .i64 1))), none, []⟩] false [2, 3])
 .ret)
 .skip)))))
 (.reg [
 ⟨(some 23), (.move (.tmp 4)), none, []⟩,
 ⟨(some 24), (.bin .add (.tmp 23) (.const (.int .i64 1))), none, []⟩,
 ⟨(some 4), (.move (.tmp 24)), none, []⟩] false [1, 4]))))))
 (.seq
 (.reg [
 ⟨(some 2), (.move (.const (.int .i64 (-1)))), none, []⟩,
 ⟨(some 3), (.move (.const (.int .i64 0))), none, []⟩] false [2, 3])
 .ret)))))
-- simp set: ac39
theorem isF39 : IsFunc Try.prog 39 1 ac39 [.tmp 2, .tmp 3] := isFunc_of _ [(0, [1]), (1, [1, 9]), (2, [2, 3]), (3, [1, 17]), (4, [2, 3]), (5, [1, 4]), (6, [1, 4, 22]), (8, [1, 4, 5]), (9, [1, 4, 5, 58]), (10, [2, 3]), (11, [1, 4, 77]), (12, [2, 3]), (7, [1, 4]), (13, [2, 3])] Try.func39 (by kernel_rfl)
/-- waymark/waymarkref1.CopyGraph; loop heads: [] -/
def ac40 : ACode :=
 (.seq
 (.reg [
 ⟨(some 1), (.box (.tmp 0)), none, []⟩,
 ⟨(some 2), (.alloc [(.sc (.int .i64 0)), .nils]), none, []⟩] false [1, 2])
 (.seq
 (.reg [
 ⟨(some 3), (.fieldAddr 1 (.tmp 1)), none, []⟩,
 ⟨(some 4), (.load false 1 (.tmp 3)), none, []⟩,
 ⟨(some 5), (.append 4 32 [(.sc (.int .i64 0)), (.sc (.int .i64 0)), (.sc (.int .i64 0)), (.sc (.int .i64 0))] (.const (.slice none 0 0)) (.tmp 4)), none, []⟩,
 ⟨(some 6), (.fieldAddr 1 (.tmp 1)), none, []⟩,
 ⟨none, (.store 1 (.tmp 6) (.tmp 5)), none, []⟩] false [1, 2])
 (.seq
 (.reg [
 ⟨(some 7), (.load true 2 (.tmp 1)), none, []⟩,
 ⟨none, (.store 2 (.tmp 2) (.tmp 7)), none, []⟩] false [2])
 .ret)))
-- simp set: ac40
theorem isF40 : IsFunc Try.prog 40 1 ac40 [.cell 2 true 2] := isFunc_of _ [(0, [1, 2]), (1, [1, 2]), (2, [2])] Try.func40 (by kernel_rfl)
/-- waymark/waymarkref1.From; loop heads: [[1, 2, 3, 9, 10], [1, 3, 9, 11], [1, 3, 9, 11, 12]] -/
def op41_61 : List AOper := [
 ⟨(some 61), (.move (.tmp 9)), none, []⟩,
 ⟨(some 62), (.move (.tmp 13)), none, []⟩,
 ⟨(some 63), (.indexAddrS 1 (.tmp 61) (.tmp 62)), none, [0, 1]⟩,
 ⟨(some 64), (.load false 1 (.tmp 63)), none, [2]⟩,
 ⟨(some 65), (.fieldAddr 1 (.tmp 3)), none, []⟩,
 ⟨(some 66), (.load false 1 (.tmp 65)), none, [4]⟩,
 ⟨(some 67), (.move (.tmp 12)), none, []⟩,
 ⟨(some 68), (.bin .quo (.tmp 67) (.const (.int .i64 2))), none, [6]⟩,
 ⟨(some 69), (.indexAddrS 4 (.tmp 66) (.tmp 68)), none, [5, 7]⟩,
 ⟨(some 70), (.fieldAddr 2 (.tmp 69)), none, [8]⟩,
 ⟨(some 71), (.load false 1 (.tmp 70)), none, [9]⟩,
 ⟨(some 72), (.bin .add (.tmp 64) (.tmp 71)), none, [3, 10]⟩,
 ⟨(some 16), (.move (.tmp 72)), none, [11, 0, 1, 2, 3, 4, 5, 6, 7, 8, 9, 10, 11]⟩]
@[go_sem ↓] theorem op41_61_run {K : AExit → Fr → Store → Prop} {fr : Fr} {σ : Store} : wp Try.prog (.reg op41_61 true [1, 3, 9, 11, 12, 13, 14, 16]) K fr σ = wpOpsD Try.prog (Kreg [1, 3, 9, 11, 12, 13, 14, 16] K) op41_61 (Fr.get fr) σ := wp_draw (by kernel_rfl)
def ac41 : ACode :=
 (.seq
 (.reg [
 ⟨(some 3), (.box (.tmp 0)), none, []⟩,
 ⟨(some 6), (.move (.const (.slice none 0 0))), none, []⟩] false [1, 2, 3])
 (.seq
 (.reg [
 ⟨(some 18), (.load true 2 (.tmp 3)), none, []⟩,
 ⟨(some 19), (.callF 39 [(.tmp 18)]), none, []⟩,
 ⟨(some 17), (.move (.tmp 19)), none, []⟩,
 ⟨(some 20), (.extract (.tmp 17) 0), none, []⟩,
 ⟨(some 21), (.extract (.tmp 17) 1), none, []⟩,
 ⟨(some 7), (.move (.tmp 20)), none, []⟩,
 ⟨(some 8), (.move (.tmp 21)), none, []⟩] false [1, 2, 3, 8])
 (.seq
 (.seq
 (.reg [
 ⟨(some 22), (.move (.tmp 8)), none, []⟩,
 ⟨(some 23), (.bin .neq (.tmp 22) (.const (.int .i64 0))), none, []⟩,
 ⟨(some 24), (.move (.tmp 23)), none, []⟩,
 ⟨(some 25), (.load true 2 (.tmp 3)), (some (24, false)), []⟩,
 ⟨(some 26), (.move (.tmp 2)), (some (24, false)), []⟩,
 ⟨(some 27), (.callF 64 [(.tmp 25), (.tmp 26)]), (some (24, false)), []⟩,
 ⟨(some 28), (.un .not (.tmp 27)), (some (24, false)), []⟩,
 ⟨(some 29), (.pick (.tmp 24) (.const (.bool true)) (.tmp 28)), none, []⟩] false [1, 2, 3, 29])
 (.cond (.tmp 29)
 (.seq
 (.reg [
 ⟨(some 6), (.move (.const (.slice none 0 0))), none, []⟩] false [6])
 .ret)
 .skip))
 (.seq
 (.reg [
 ⟨(some 30), (.fieldAddr 0 (.tmp 3)), none, []⟩,
 ⟨(some 31), (.load false 1 (.tmp 30)), none, []⟩,
 ⟨(some 32), (.makeSlice 1 8 [(.sc (.int .i64 0))] (.tmp 31) (.tmp 31)), none, []⟩,
 ⟨(some 9), (.move (.tmp 32)), none, []⟩] false [1, 2, 3, 9])
 (.seq
 (.seq
 (.reg [
 ⟨(some 10), (.move (.const (.int .i64 0))), none, []⟩] false [1, 2, 3, 9, 10])
 (.block 0
 (.loop
 (.seq
 (.seq
 (.reg [
 ⟨(some 33), (.move (.tmp 10)), none, []⟩,
 ⟨(some 34), (.fieldAddr 0 (.tmp 3)), none, []⟩,
 ⟨(some 35), (.load false 1 (.tmp 34)), none, []⟩,
 ⟨(some 36), (.bin .lss (.tmp 33) (.tmp 35)), none, []⟩] false [1, 2, 3, 9, 10, 36])
 (.cond (.tmp 36)
 .skip
 (.exit 0)))
 (.seq
 (.block 1
 (.reg [
 ⟨(some 39), (.move (.tmp 9)), none, []⟩,
 ⟨(some 40), (.move (.tmp 10)), none, []⟩,
 ⟨(some 41), (.indexAddrS 1 (.tmp 39) (.tmp 40)), none, []⟩,
 ⟨none, (.store 1 (.tmp 41) (.const (.int .i64 (-1)))), none, []⟩] false [1, 2, 3, 9, 10]))
 (.reg [
 ⟨(some 37), (.move (.tmp 10)), none, []⟩,
 ⟨(some 38), (.bin .add (.tmp 37) (.const (.int .i64 1))), none, []⟩,
 ⟨(some 10), (.move (.tmp 38)), none, []⟩] false [1, 2, 3, 9, 10]))))))
 (.seq
 (.reg [
 ⟨(some 42), (.move (.tmp 9)), none, []⟩,
 ⟨(some 43), (.move (.tmp 2)), none, []⟩,
 ⟨(some 44), (.indexAddrS 1 (.tmp 42) (.tmp 43)), none, []⟩,
 ⟨none, (.store 1 (.tmp 44) (.const (.int .i64 0))), none, []⟩] false [1, 3, 9])
 (.seq
 (.seq
 (.reg [
 ⟨(some 11), (.move (.const (.bool true))), none, []⟩] false [1, 3, 9, 11])
 (.block 2
 (.loop
 (.seq
 (.seq
 (.reg [
 ⟨(some 45), (.move (.tmp 11)), none, []⟩] false [1, 3, 9, 45])
 (.cond (.tmp 45)
 .skip
 (.exit 2)))
 (.block 3
 (.seq
 (.reg [
 ⟨(some 11), (.move (.const (.bool false))), none, []⟩] false [1, 3, 9, 11])
 (.seq
 (.reg [
 ⟨(some 12), (.move (.const (.int .i64 0))), none, []⟩] false [1, 3, 9, 11, 12])
 (.block 4
 (.loop
 (.seq
 (.seq
 (.reg [
 ⟨(some 46), (.move (.tmp 12)), none, []⟩,
 ⟨(some 47), (.fieldAddr 1 (.tmp 3)), none, []⟩,
 ⟨(some 48), (.load false 1 (.tmp 47)), none, []⟩,
 ⟨(some 49), (.lenS (.tmp 48)), none, []⟩,
 ⟨(some 50), (.bin .mul (.const (.int .i64 2)) (.tmp 49)), none, []⟩,
 ⟨(some 51), (.bin .lss (.tmp 46) (.tmp 50)), none, []⟩] false [1, 3, 9, 11, 12, 51])
 (.cond (.tmp 51)
 .skip
 (.exit 4)))
 (.seq
 (.block 5
 (.seq
 (.reg [
 ⟨(some 55), (.load true 2 (.tmp 3)), none, []⟩,
 ⟨(some 56), (.move (.tmp 12)), none, []⟩,
 ⟨(some 57), (.callF 16 [(.tmp 55), (.tmp 56)]), none, []⟩,
 ⟨(some 54), (.move (.tmp 57)), none, []⟩,
 ⟨(some 58), (.extract (.tmp 54) 0), none, []⟩,
 ⟨(some 59), (.extract (.tmp 54) 1), none, []⟩,
 ⟨(some 60), (.extract (.tmp 54) 2), none, []⟩,
 ⟨(some 13), (.move (.tmp 58)), none, []⟩,
 ⟨(some 14), (.move (.tmp 59)), none, []⟩,
 ⟨(some 15), (.move (.tmp 60)), none, []⟩] false [1, 3, 9, 11, 12, 13, 14])
 (.seq
 (.reg op41_61 true [1, 3, 9, 11, 12, 13, 14, 16])
 (.seq
 (.reg [
 ⟨(some 73), (.move (.tmp 9)), none, []⟩,
 ⟨(some 74), (.move (.tmp 13)), none, []⟩,
 ⟨(some 75), (.indexAddrS 1 (.tmp 73) (.tmp 74)), none, []⟩,
 ⟨(some 76), (.load false 1 (.tmp 75)), none, []⟩,
 ⟨(some 77), (.bin .geq (.tmp 76) (.const (.int .i64 0))), none, []⟩,
 ⟨(some 78), (.move (.tmp 77)), none, []⟩,
 ⟨(some 79), (.move (.tmp 1)), (some (78, true)), []⟩,
 ⟨(some 80), (.move (.tmp 12)), (some (78, true)), []⟩,
 ⟨(some 81), (.bin .quo (.tmp 80) (.const (.int .i64 2))), (some (78, true)), []⟩,
 ⟨(some 82), (.callF 17 [(.tmp 79), (.tmp 81)]), (some (78, true)), []⟩,
 ⟨(some 83), (.un .not (.tmp 82)), (some (78, true)), []⟩,
 ⟨(some 84), (.pick (.tmp 78) (.tmp 83) (.const (.bool false))), none, []⟩,
 ⟨(some 85), (.move (.tmp 84)), none, []⟩,
 ⟨(some 86), (.move (.tmp 9)), (some (85, true)), []⟩,
 ⟨(some 87), (.move (.tmp 14)), (some (85, true)), []⟩,
 ⟨(some 88), (.indexAddrS 1 (.tmp 86) (.tmp 87)), (some (85, true)), []⟩,
 ⟨(some 89), (.load false 1 (.tmp 88)), (some (85, true)), []⟩,
 ⟨(some 90), (.bin .lss (.tmp 89) (.const (.int .i64 0))), (some (85, true)), []⟩,
 ⟨(some 91), (.move (.tmp 90)), (some (85, true)), []⟩,
 ⟨(some 92), (.move (.tmp 16)), (some (91, false)), []⟩,
 ⟨(some 93), (.move (.tmp 9)), (some (91, false)), []⟩,
 ⟨(some 94), (.move (.tmp 14)), (some (91, false)), []⟩,
 ⟨(some 95), (.indexAddrS 1 (.tmp 93) (.tmp 94)), (some (91, false)), []⟩,
 ⟨(some 96), (.load false 1 (.tmp 95)), (some (91, false)), []⟩,
 ⟨(some 97), (.bin .lss (.tmp 92) (.tmp 96)), (some (91, false)), []⟩,
 ⟨(some 98), (.pick (.tmp 91) (.const (.bool true)) (.tmp 97)), (some (85, true)), []⟩,
 ⟨(some 99), (.pick (.tmp 85) (.tmp 98) (.const (.bool false))), none, []⟩] false [1, 3, 9, 11, 12, 14, 16, 99])
 (.cond (.tmp 99)
 (.seq
 (.reg [
 ⟨(some 100), (.move (.tmp 9)), none, []⟩,
 ⟨(some 101), (.move (.tmp 14)), none, []⟩,
 ⟨(some 102), (.move (.tmp 16)), none, []⟩,
 ⟨(some 103), (.indexAddrS 1 (.tmp 100) (.tmp 101)), none, []⟩,
 ⟨none, (.store 1 (.tmp 103) (.tmp 102)), none, []⟩] false [1, 3, 9, 12])
 (.reg [
 ⟨(some 11), (.move (.const (.bool true))), none, []⟩] false [1, 3, 9, 11, 12]))
 .skip)))))
 (.reg [
 ⟨(some 52), (.move (.tmp 12)), none, []⟩,
 ⟨(some 53), (.bin .add (.tmp 52) (.const (.int .i64 1))), none, []⟩,
 ⟨(some 12), (.move (.tmp 53)), none, []⟩] false [1, 3, 9, 11, 12]))))))))))))
 (.seq
 (.reg [
 ⟨(some 104), (.move (.tmp 9)), none, []⟩,
 ⟨(some 6), (.move (.tmp 104)), none, []⟩] false [6])
 .ret))))))))
-- simp set: ac41, op41_61
theorem isF41 : IsFunc Try.prog 41 3 ac41 [.tmp 6] := isFunc_of _ [(0, [1, 2, 3]), (1, [1, 2, 3, 8]), (2, [1, 2, 3, 29]), (3, [6]), (4, [1, 2, 3, 9]), (5, [1, 2, 3, 9, 10]), (6, [1, 2, 3, 9, 10, 36]), (8, [1, 2, 3, 9, 10]), (7, [1, 2, 3, 9, 10]), (9, [1, 3, 9]), (10, [1, 3, 9, 11]), (11, [1, 3, 9, 45]), (12, [1, 3, 9, 11]), (13, [1, 3, 9, 11, 12]), (14, [1, 3, 9, 11, 12, 51]), (16, [1, 3, 9, 11, 12, 13, 14]), (17, [1, 3, 9, 11, 12, 13, 14, 16]), (18, [1, 3, 9, 11, 12, 14, 16, 99]), (19, [1, 3, 9, 12]), (20, [1, 3, 9, 11, 12]), (15, [1, 3, 9, 11, 12]), (21, [6])] Try.func41 (by kernel_rfl)
end Go.Proofs
