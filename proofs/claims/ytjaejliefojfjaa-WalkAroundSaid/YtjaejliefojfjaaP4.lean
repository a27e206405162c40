/- A part of the proof: lemmas alone, no statement. -/
import Derived.Test.YtjaejliefojfjaaP2
import Derived.Test.YtjaejliefojfjaaProg
import Derived.KernelRfl
import Derived.Test.YtjaejliefojfjaaP3
set_option linter.unusedVariables false
set_option linter.unusedSimpArgs false
set_option linter.unnecessarySimpa false
set_option linter.unusedSectionVars false
namespace Go.Proofs
open Go.Ab
/-- waymark/opt.New; loop heads: [[3, 4, 9, 33, 34, 35]] -/
def op42_20 : List AOper := [
 ⟨(some 20), (.load true 2 (.tmp 3)), none, []⟩,
 ⟨(some 21), (.load true 7 (.tmp 4)), none, []⟩,
 ⟨(some 22), (.callF 43 [(.tmp 21)]), none, [1]⟩,
 ⟨(some 23), (.load true 2 (.tmp 3)), none, []⟩,
 ⟨(some 24), (.load true 7 (.tmp 4)), none, []⟩,
 ⟨(some 25), (.move (.tmp 2)), none, []⟩,
 ⟨(some 26), (.callF 66 [(.tmp 23), (.tmp 24), (.tmp 25)]), none, [3, 4, 5, 2]⟩,
 ⟨(some 27), (.build [(.sc (.int .i64 0)), .nils, .nils, .nils, .nils, (.sc (.int .i64 0))] [(0, 2, (.tmp 20)), (2, 1, (.tmp 22)), (3, 1, (.tmp 26))]), none, [0, 2, 6]⟩,
 ⟨(some 28), (.box (.tmp 27)), none, [7]⟩,
 ⟨(some 9), (.move (.tmp 28)), none, [8, 6, 0, 1, 2, 3, 4, 5, 6, 7, 8]⟩]
@[go_sem ↓] theorem op42_20_run {K : AExit → Fr → Store → Prop} {fr : Fr} {σ : Store} : wp Try.prog (.reg op42_20 true [3, 4, 9]) K fr σ = wpOpsD Try.prog (Kreg [3, 4, 9] K) op42_20 (Fr.get fr) σ := wp_draw (by kernel_rfl)
def op42_40 : List AOper := [
 ⟨(some 40), (.load true 2 (.tmp 3)), none, []⟩,
 ⟨(some 41), (.move (.tmp 9)), none, []⟩,
 ⟨(some 42), (.nilCheck (.tmp 41)), none, [1]⟩,
 ⟨(some 43), (.fieldAddr 3 (.tmp 42)), none, [2]⟩,
 ⟨(some 44), (.load false 1 (.tmp 43)), none, [3]⟩,
 ⟨(some 45), (.move (.tmp 11)), none, []⟩,
 ⟨(some 46), (.callF 37 [(.tmp 40), (.tmp 44), (.tmp 45)]), none, [0, 4, 5]⟩,
 ⟨(some 12), (.move (.tmp 46)), none, [6, 6, 0, 1, 2, 3, 4, 5, 6]⟩]
@[go_sem ↓] theorem op42_40_run {K : AExit → Fr → Store → Prop} {fr : Fr} {σ : Store} : wp Try.prog (.reg op42_40 true [3, 4, 9, 10, 12, 33, 34, 35]) K fr σ = wpOpsD Try.prog (Kreg [3, 4, 9, 10, 12, 33, 34, 35] K) op42_40 (Fr.get fr) σ := wp_draw (by kernel_rfl)
def op42_78 : List AOper := [
 ⟨(some 78), (.fieldAddr 2 (.tmp 4)), none, []⟩,
 ⟨(some 79), (.load false 1 (.tmp 78)), none, [0]⟩,
 ⟨(some 80), (.bin .gtr (.tmp 79) (.const (.int .i64 0))), none, [1]⟩,
 ⟨(some 81), (.move (.tmp 80)), none, [2]⟩,
 ⟨(some 82), (.move (.tmp 9)), (some (81, true)), [3]⟩,
 ⟨(some 83), (.nilCheck (.tmp 82)), (some (81, true)), [4, 3]⟩,
 ⟨(some 84), (.fieldAddr 5 (.tmp 83)), (some (81, true)), [5, 3]⟩,
 ⟨(some 85), (.load false 1 (.tmp 84)), (some (81, true)), [6, 3]⟩,
 ⟨(some 86), (.fieldAddr 2 (.tmp 4)), (some (81, true)), [3]⟩,
 ⟨(some 87), (.load false 1 (.tmp 86)), (some (81, true)), [8, 3]⟩,
 ⟨(some 88), (.bin .gtr (.tmp 85) (.tmp 87)), (some (81, true)), [7, 9, 3]⟩,
 ⟨(some 89), (.pick (.tmp 81) (.tmp 88) (.const (.bool false))), none, [3, 10]⟩]
@[go_sem ↓] theorem op42_78_run {K : AExit → Fr → Store → Prop} {fr : Fr} {σ : Store} : wp Try.prog (.reg op42_78 true [9, 89]) K fr σ = wpOpsD Try.prog (Kreg [9, 89] K) op42_78 (Fr.get fr) σ := wp_draw (by kernel_rfl)
def ac42 : ACode :=
 (.seq
 (.reg [
 ⟨(some 3), (.box (.tmp 0)), none, []⟩,
 ⟨(some 4), (.box (.tmp 1)), none, []⟩,
 ⟨(some 6), (.move (.const (.pointer none))), none, []⟩,
 ⟨(some 7), (.move (.const (.int .i64 0))), none, []⟩] false [2, 3, 4])
 (.seq
 (.seq
 (.reg [
 ⟨(some 14), (.load true 2 (.tmp 3)), none, []⟩,
 ⟨(some 15), (.load true 7 (.tmp 4)), none, []⟩,
 ⟨(some 16), (.callF 65 [(.tmp 14), (.tmp 15)]), none, []⟩,
 ⟨(some 8), (.move (.tmp 16)), none, []⟩] false [2, 3, 4, 8])
 (.seq
 (.reg [
 ⟨(some 17), (.move (.tmp 8)), none, []⟩,
 ⟨(some 18), (.bin .neq (.tmp 17) (.const (.int .i64 0))), none, []⟩] false [2, 3, 4, 8, 18])
 (.cond (.tmp 18)
 (.seq
 (.reg [
 ⟨(some 19), (.move (.tmp 8)), none, []⟩,
 ⟨(some 6), (.move (.const (.pointer none))), none, []⟩,
 ⟨(some 7), (.move (.tmp 19)), none, []⟩] false [6, 7])
 .ret)
 .skip)))
 (.seq
 (.reg op42_20 true [3, 4, 9])
 (.seq
 (.seq
 (.reg [
 ⟨(some 29), (.move (.tmp 9)), none, []⟩,
 ⟨(some 30), (.nilCheck (.tmp 29)), none, []⟩,
 ⟨(some 31), (.fieldAddr 2 (.tmp 30)), none, []⟩,
 ⟨(some 32), (.load false 1 (.tmp 31)), none, []⟩,
 ⟨(some 33), (.slice 1 (.tmp 32) (some (.const (.int .i64 1))) none none), none, []⟩,
 ⟨(some 34), (.lenS (.tmp 33)), none, []⟩,
 ⟨(some 35), (.move (.const (.int .i64 0))), none, []⟩] false [3, 4, 9, 33, 34, 35])
 (.block 0
 (.loop
 (.seq
 (.reg [
 ⟨(some 36), (.bin .lss (.tmp 35) (.tmp 34)), none, []⟩] false [3, 4, 9, 33, 34, 35, 36])
 (.seq
 (.cond (.tmp 36)
 .skip
 (.exit 0))
 (.seq
 (.block 1
 (.seq
 (.reg [
 ⟨(some 37), (.move (.tmp 35)), none, []⟩,
 ⟨(some 38), (.indexAddrS 1 (.tmp 33) (.tmp 35)), none, []⟩,
 ⟨(some 39), (.load false 1 (.tmp 38)), none, []⟩,
 ⟨(some 10), (.move (.tmp 37)), none, []⟩,
 ⟨(some 11), (.move (.tmp 39)), none, []⟩] false [3, 4, 9, 10, 11, 33, 34, 35])
 (.seq
 (.reg op42_40 true [3, 4, 9, 10, 12, 33, 34, 35])
 (.seq
 (.reg [
 ⟨(some 47), (.move (.tmp 12)), none, []⟩,
 ⟨(some 48), (.move (.tmp 9)), none, []⟩,
 ⟨(some 49), (.nilCheck (.tmp 48)), none, []⟩,
 ⟨(some 50), (.fieldAddr 2 (.tmp 49)), none, []⟩,
 ⟨(some 51), (.load false 1 (.tmp 50)), none, []⟩,
 ⟨(some 52), (.move (.tmp 10)), none, []⟩,
 ⟨(some 53), (.indexAddrS 1 (.tmp 51) (.tmp 52)), none, []⟩,
 ⟨(some 54), (.load false 1 (.tmp 53)), none, []⟩,
 ⟨(some 55), (.indexAddrS 1 (.tmp 47) (.tmp 54)), none, []⟩,
 ⟨(some 56), (.load false 1 (.tmp 55)), none, []⟩,
 ⟨(some 13), (.move (.tmp 56)), none, []⟩] false [3, 4, 9, 12, 13, 33, 34, 35])
 (.seq
 (.seq
 (.reg [
 ⟨(some 57), (.move (.tmp 13)), none, []⟩,
 ⟨(some 58), (.bin .lss (.tmp 57) (.const (.int .i64 0))), none, []⟩] false [3, 4, 9, 12, 13, 33, 34, 35, 58])
 (.cond (.tmp 58)
 (.seq
 (.reg [
 ⟨(some 6), (.move (.const (.pointer none))), none, []⟩,
 ⟨(some 7), (.move (.const (.int .i64 8))), none, []⟩] false [6, 7])
 .ret)
 .skip))
 (.seq
 (.reg [
 ⟨(some 59), (.move (.tmp 9)), none, []⟩,
 ⟨(some 60), (.move (.tmp 9)), none, []⟩,
 ⟨(some 61), (.nilCheck (.tmp 60)), none, []⟩,
 ⟨(some 62), (.fieldAddr 4 (.tmp 61)), none, []⟩,
 ⟨(some 63), (.load false 1 (.tmp 62)), none, []⟩,
 ⟨(some 64), (.move (.tmp 12)), none, []⟩,
 ⟨(some 65), (.buildSlice 1 1 [.nils] [(0, (.tmp 64))]), none, []⟩,
 ⟨(some 66), (.append 1 24 [.nils] (.tmp 63) (.tmp 65)), none, []⟩,
 ⟨(some 67), (.nilCheck (.tmp 59)), none, []⟩,
 ⟨(some 68), (.fieldAddr 4 (.tmp 67)), none, []⟩,
 ⟨none, (.store 1 (.tmp 68) (.tmp 66)), none, []⟩] false [3, 4, 9, 13, 33, 34, 35])
 (.reg [
 ⟨(some 69), (.move (.tmp 9)), none, []⟩,
 ⟨(some 70), (.nilCheck (.tmp 69)), none, []⟩,
 ⟨(some 71), (.fieldAddr 5 (.tmp 70)), none, []⟩,
 ⟨(some 72), (.load false 1 (.tmp 71)), none, []⟩,
 ⟨(some 73), (.move (.tmp 13)), none, []⟩,
 ⟨(some 74), (.bin .add (.tmp 72) (.tmp 73)), none, []⟩,
 ⟨(some 75), (.nilCheck (.tmp 69)), none, []⟩,
 ⟨(some 76), (.fieldAddr 5 (.tmp 75)), none, []⟩,
 ⟨none, (.store 1 (.tmp 76) (.tmp 74)), none, []⟩] false [3, 4, 9, 33, 34, 35])))))))
 (.reg [
 ⟨(some 77), (.bin .add (.tmp 35) (.const (.int .i64 1))), none, []⟩,
 ⟨(some 35), (.move (.tmp 77)), none, []⟩] false [3, 4, 9, 33, 34, 35])))))))
 (.seq
 (.seq
 (.reg op42_78 true [9, 89])
 (.cond (.tmp 89)
 (.seq
 (.reg [
 ⟨(some 6), (.move (.const (.pointer none))), none, []⟩,
 ⟨(some 7), (.move (.const (.int .i64 8))), none, []⟩] false [6, 7])
 .ret)
 .skip))
 (.seq
 (.reg [
 ⟨(some 90), (.move (.tmp 9)), none, []⟩,
 ⟨(some 6), (.move (.tmp 90)), none, []⟩,
 ⟨(some 7), (.move (.const (.int .i64 0))), none, []⟩] false [6, 7])
 .ret))))))
-- simp set: ac42, op42_20, op42_40, op42_78
theorem isF42 : IsFunc Try.prog 42 3 ac42 [.tmp 6, .tmp 7] := isFunc_of _ [(0, [2, 3, 4]), (1, [2, 3, 4, 8]), (2, [2, 3, 4, 8, 18]), (3, [6, 7]), (4, [3, 4, 9]), (5, [3, 4, 9, 33, 34, 35]), (6, [3, 4, 9, 33, 34, 35, 36]), (7, [3, 4, 9, 10, 11, 33, 34, 35]), (8, [3, 4, 9, 10, 12, 33, 34, 35]), (9, [3, 4, 9, 12, 13, 33, 34, 35]), (10, [3, 4, 9, 12, 13, 33, 34, 35, 58]), (11, [6, 7]), (12, [3, 4, 9, 13, 33, 34, 35]), (13, [3, 4, 9, 33, 34, 35]), (14, [3, 4, 9, 33, 34, 35]), (15, [9, 89]), (16, [6, 7]), (17, [6, 7])] Try.func42 (by kernel_rfl)
/-- waymark/opt.points; loop heads: [] -/
def ac43 : ACode :=
 (.seq
 (.reg [
 ⟨(some 1), (.box (.tmp 0)), none, []⟩,
 ⟨(some 2), (.move (.const (.slice none 0 0))), none, []⟩] false [1])
 (.seq
 (.reg [
 ⟨(some 4), (.fieldAddr 0 (.tmp 1)), none, []⟩,
 ⟨(some 5), (.load false 1 (.tmp 4)), none, []⟩,
 ⟨(some 6), (.buildSlice 1 1 [(.sc (.int .i64 0))] [(0, (.tmp 5))]), none, []⟩,
 ⟨(some 7), (.fieldAddr 3 (.tmp 1)), none, []⟩,
 ⟨(some 8), (.load false 1 (.tmp 7)), none, []⟩,
 ⟨(some 9), (.append 1 8 [(.sc (.int .i64 0))] (.tmp 6) (.tmp 8)), none, []⟩,
 ⟨(some 3), (.move (.tmp 9)), none, []⟩] false [1, 3])
 (.seq
 (.reg [
 ⟨(some 10), (.move (.tmp 3)), none, []⟩,
 ⟨(some 11), (.fieldAddr 1 (.tmp 1)), none, []⟩,
 ⟨(some 12), (.load false 1 (.tmp 11)), none, []⟩,
 ⟨(some 13), (.buildSlice 1 1 [(.sc (.int .i64 0))] [(0, (.tmp 12))]), none, []⟩,
 ⟨(some 14), (.append 1 8 [(.sc (.int .i64 0))] (.tmp 10) (.tmp 13)), none, []⟩,
 ⟨(some 2), (.move (.tmp 14)), none, []⟩] false [2])
 .ret)))
-- simp set: ac43
theorem isF43 : IsFunc Try.prog 43 1 ac43 [.tmp 2] := isFunc_of _ [(0, [1]), (1, [1, 3]), (2, [2])] Try.func43 (by kernel_rfl)
/-- waymark/opt.come; loop heads: [[0, 1, 2, 6]] -/
def ac44 : ACode :=
 (.seq
 (.reg [
 ⟨(some 6), (.alloc [(.sc (.int .i64 0)), (.sc (.int .i64 0))]), none, []⟩] false [0, 1, 2, 6])
 (.seq
 (.block 0
 (.loop
 (.seq
 (.seq
 (.reg [
 ⟨(some 7), (.move (.tmp 2)), none, []⟩,
 ⟨(some 8), (.bin .add (.tmp 7) (.const (.int .i64 1))), none, []⟩,
 ⟨(some 9), (.move (.tmp 0)), none, []⟩,
 ⟨(some 10), (.lenS (.tmp 9)), none, []⟩,
 ⟨(some 11), (.bin .lss (.tmp 8) (.tmp 10)), none, []⟩,
 ⟨(some 12), (.move (.tmp 11)), none, []⟩,
 ⟨(some 13), (.move (.tmp 0)), (some (12, true)), []⟩,
 ⟨(some 14), (.move (.tmp 2)), (some (12, true)), []⟩,
 ⟨(some 15), (.bin .add (.tmp 14) (.const (.int .i64 1))), (some (12, true)), []⟩,
 ⟨(some 16), (.indexAddrS 1 (.tmp 13) (.tmp 15)), (some (12, true)), []⟩,
 ⟨(some 17), (.load false 1 (.tmp 16)), (some (12, true)), []⟩,
 ⟨(some 18), (.move (.tmp 1)), (some (12, true)), []⟩,
 ⟨(some 19), (.bin .eql (.tmp 17) (.tmp 18)), (some (12, true)), []⟩,
 ⟨(some 20), (.pick (.tmp 12) (.tmp 19) (.const (.bool false))), none, []⟩] false [0, 1, 2, 6, 20])
 (.cond (.tmp 20)
 .skip
 (.exit 0)))
 (.block 1
 (.reg [
 ⟨(some 21), (.move (.tmp 2)), none, []⟩,
 ⟨(some 22), (.bin .add (.tmp 21) (.const (.int .i64 1))), none, []⟩,
 ⟨(some 2), (.move (.tmp 22)), none, []⟩] false [0, 1, 2, 6])))))
 (.seq
 (.reg [
 ⟨(some 23), (.move (.tmp 1)), none, []⟩,
 ⟨(some 24), (.move (.tmp 2)), none, []⟩,
 ⟨(some 25), (.build [(.sc (.int .i64 0)), (.sc (.int .i64 0))] [(0, 1, (.tmp 23)), (1, 1, (.tmp 24))]), none, []⟩,
 ⟨none, (.store 2 (.tmp 6) (.tmp 25)), none, []⟩] false [6])
 .ret)))
-- simp set: ac44
theorem isF44 : IsFunc Try.prog 44 3 ac44 [.cell 6 true 2] := isFunc_of _ [(0, [0, 1, 2, 6]), (1, [0, 1, 2, 6, 20]), (2, [0, 1, 2, 6]), (3, [6])] Try.func44 (by kernel_rfl)
/-- (*waymark/compile.search).from$1; loop heads: [] -/
def op45_8 : List AOper := [
 ⟨(some 8), (.load false 1 (.tmp 1)), none, []⟩,
 ⟨(some 9), (.nilCheck (.tmp 8)), none, [0]⟩,
 ⟨(some 10), (.fieldAddr 0 (.tmp 9)), none, [1]⟩,
 ⟨(some 11), (.load false 1 (.tmp 10)), none, [2]⟩,
 ⟨(some 12), (.load true 2 (.tmp 2)), none, []⟩,
 ⟨(some 13), (.load true 2 (.tmp 4)), none, []⟩,
 ⟨(some 14), (.callF 46 [(.tmp 11), (.tmp 12), (.tmp 13)]), none, [3, 4, 5]⟩,
 ⟨(some 7), (.move (.tmp 14)), none, [6]⟩,
 ⟨(some 15), (.extract (.tmp 7) 0), none, [7]⟩,
 ⟨(some 16), (.extract (.tmp 7) 1), none, [7]⟩,
 ⟨(some 5), (.alloc [(.sc (.int .i64 0)), (.sc (.int .i64 0))]), none, []⟩,
 ⟨none, (.store 2 (.tmp 5) (.tmp 15)), none, [10, 8, 6, 0, 1, 2, 3, 4, 5, 6, 7, 8, 10]⟩,
 ⟨(some 6), (.move (.tmp 16)), none, [9, 11, 0, 1, 2, 3, 4, 5, 6, 7, 8, 9, 10, 11]⟩]
@[go_sem ↓] theorem op45_8_run {K : AExit → Fr → Store → Prop} {fr : Fr} {σ : Store} : wp Try.prog (.reg op45_8 true [3, 4, 5, 6]) K fr σ = wpOpsD Try.prog (Kreg [3, 4, 5, 6] K) op45_8 (Fr.get fr) σ := wp_draw (by kernel_rfl)
def ac45 : ACode :=
 (.seq
 (.reg [
 ⟨(some 4), (.box (.tmp 0)), none, []⟩] false [1, 2, 3, 4])
 (.seq
 (.reg op45_8 true [3, 4, 5, 6])
 (.seq
 (.reg [
 ⟨(some 17), (.move (.tmp 6)), none, []⟩] false [3, 4, 5, 17])
 (.cond (.tmp 17)
 (.reg [
 ⟨(some 18), (.load false 1 (.tmp 3)), none, []⟩,
 ⟨(some 19), (.load true 2 (.tmp 4)), none, []⟩,
 ⟨(some 20), (.load true 2 (.tmp 5)), none, []⟩,
 ⟨(some 21), (.build [(.sc (.bool false)), (.sc (.int .i64 0)), (.sc (.int .i64 0)), (.sc (.int .i64 0))] [(0, 2, (.tmp 19)), (2, 2, (.tmp 20))]), none, []⟩,
 ⟨(some 22), (.buildSlice 4 1 [(.sc (.bool false)), (.sc (.int .i64 0)), (.sc (.int .i64 0)), (.sc (.int .i64 0))] [(0, (.tmp 21))]), none, []⟩,
 ⟨(some 23), (.append 4 32 [(.sc (.bool false)), (.sc (.int .i64 0)), (.sc (.int .i64 0)), (.sc (.int .i64 0))] (.tmp 18) (.tmp 22)), none, []⟩,
 ⟨none, (.store 1 (.tmp 3) (.tmp 23)), none, []⟩] false [])
 .skip))))
-- simp set: ac45, op45_8
theorem isF45 : IsFunc Try.prog 45 4 ac45 [] := isFunc_of _ [(0, [1, 2, 3, 4]), (1, [3, 4, 5, 6]), (2, [3, 4, 5, 17])] Try.func45 (by kernel_rfl)
/-- (*waymark/expand.Map).Seg; loop heads: [] -/
def op46_13 : List AOper := [
 ⟨(some 13), (.move (.tmp 0)), none, []⟩,
 ⟨(some 14), (.nilCheck (.tmp 13)), none, [0]⟩,
 ⟨(some 15), (.fieldAddr 3 (.tmp 14)), none, [1]⟩,
 ⟨(some 16), (.load false 1 (.tmp 15)), none, [2]⟩,
 ⟨(some 17), (.load true 2 (.tmp 4)), none, []⟩,
 ⟨(some 18), (.fieldAddr 1 (.tmp 5)), none, []⟩,
 ⟨(some 19), (.load false 1 (.tmp 18)), none, [5]⟩,
 ⟨(some 20), (.callF 67 [(.tmp 16), (.tmp 17), (.tmp 19)]), none, [3, 4, 6]⟩,
 ⟨(some 21), (.extract (.tmp 20) 0), none, [7]⟩,
 ⟨(some 22), (.extract (.tmp 20) 1), none, [7]⟩,
 ⟨none, (.store 2 (.tmp 6) (.tmp 21)), none, [8, 7, 0, 1, 2, 3, 4, 5, 6, 7, 8, 9]⟩,
 ⟨(some 7), (.move (.tmp 22)), none, [9, 10, 0, 1, 2, 3, 4, 5, 6, 7, 8, 9, 10]⟩]
@[go_sem ↓] theorem op46_13_run {K : AExit → Fr → Store → Prop} {fr : Fr} {σ : Store} : wp Try.prog (.reg op46_13 true [6, 7]) K fr σ = wpOpsD Try.prog (Kreg [6, 7] K) op46_13 (Fr.get fr) σ := wp_draw (by kernel_rfl)
def ac46 : ACode :=
 (.seq
 (.reg [
 ⟨(some 4), (.box (.tmp 1)), none, []⟩,
 ⟨(some 5), (.box (.tmp 2)), none, []⟩,
 ⟨(some 6), (.alloc [(.sc (.int .i64 0)), (.sc (.int .i64 0))]), none, []⟩,
 ⟨(some 7), (.move (.const (.bool false))), none, []⟩] false [0, 4, 5, 6])
 (.seq
 (.seq
 (.reg [
 ⟨(some 8), (.move (.tmp 0)), none, []⟩,
 ⟨(some 9), (.eqPtr false (.tmp 8) (.const (.pointer none))), none, []⟩] false [0, 4, 5, 6, 9])
 (.cond (.tmp 9)
 (.seq
 (.reg [
 ⟨(some 10), (.build [(.sc (.int .i64 0)), (.sc (.int .i64 0))] []), none, []⟩,
 ⟨none, (.store 2 (.tmp 6) (.tmp 10)), none, []⟩,
 ⟨(some 7), (.move (.const (.bool false))), none, []⟩] false [6, 7])
 .ret)
 .skip))
 (.seq
 (.seq
 (.reg [
 ⟨(some 11), (.fieldAddr 0 (.tmp 5)), none, []⟩,
 ⟨(some 12), (.load false 1 (.tmp 11)), none, []⟩] false [0, 4, 5, 6, 12])
 (.cond (.tmp 12)
 (.seq
 (.reg op46_13 true [6, 7])
 .ret)
 .skip))
 (.seq
 (.reg [
 ⟨(some 23), (.move (.tmp 0)), none, []⟩,
 ⟨(some 24), (.load true 2 (.tmp 4)), none, []⟩,
 ⟨(some 25), (.fieldAddr 1 (.tmp 5)), none, []⟩,
 ⟨(some 26), (.load false 1 (.tmp 25)), none, []⟩,
 ⟨(some 27), (.callF 68 [(.tmp 23), (.tmp 24), (.tmp 26)]), none, []⟩,
 ⟨(some 28), (.extract (.tmp 27) 0), none, []⟩,
 ⟨(some 29), (.extract (.tmp 27) 1), none, []⟩,
 ⟨none, (.store 2 (.tmp 6) (.tmp 28)), none, []⟩,
 ⟨(some 7), (.move (.tmp 29)), none, []⟩] false [6, 7])
 .ret))))
-- simp set: ac46, op46_13
theorem isF46 : IsFunc Try.prog 46 3 ac46 [.cell 6 true 2, .tmp 7] := isFunc_of _ [(0, [0, 4, 5, 6]), (1, [0, 4, 5, 6, 9]), (2, [6, 7]), (3, [0, 4, 5, 6, 12]), (4, [6, 7]), (5, [6, 7])] Try.func46 (by kernel_rfl)
/-- (*waymark/expand.Map).Nodes; loop heads: [] -/
def ac47 : ACode :=
 (.seq
 (.reg [
 ⟨(some 2), (.move (.const (.int .i64 0))), none, []⟩] false [0])
 (.seq
 (.reg [
 ⟨(some 3), (.move (.tmp 0)), none, []⟩,
 ⟨(some 4), (.nilCheck (.tmp 3)), none, []⟩,
 ⟨(some 5), (.fieldAddr 1 (.tmp 4)), none, []⟩,
 ⟨(some 6), (.fieldAddr 0 (.tmp 5)), none, []⟩,
 ⟨(some 7), (.load false 1 (.tmp 6)), none, []⟩,
 ⟨(some 2), (.move (.tmp 7)), none, []⟩] false [2])
 .ret))
-- simp set: ac47
theorem isF47 : IsFunc Try.prog 47 1 ac47 [.tmp 2] := isFunc_of _ [(0, [0]), (1, [2])] Try.func47 (by kernel_rfl)
/-- (*waymark/expand.Map).Edges; loop heads: [] -/
def ac48 : ACode :=
 (.seq
 (.reg [
 ⟨(some 2), (.move (.const (.int .i64 0))), none, []⟩] false [0])
 (.seq
 (.reg [
 ⟨(some 3), (.move (.tmp 0)), none, []⟩,
 ⟨(some 4), (.nilCheck (.tmp 3)), none, []⟩,
 ⟨(some 5), (.fieldAddr 1 (.tmp 4)), none, []⟩,
 ⟨(some 6), (.fieldAddr 1 (.tmp 5)), none, []⟩,
 ⟨(some 7), (.load false 1 (.tmp 6)), none, []⟩,
 ⟨(some 8), (.lenS (.tmp 7)), none, []⟩,
 ⟨(some 9), (.bin .mul (.const (.int .i64 2)) (.tmp 8)), none, []⟩,
 ⟨(some 2), (.move (.tmp 9)), none, []⟩] false [2])
 .ret))
-- simp set: ac48
theorem isF48 : IsFunc Try.prog 48 1 ac48 [.tmp 2] := isFunc_of _ [(0, [0]), (1, [2])] Try.func48 (by kernel_rfl)
/-- (*waymark/walk.packet).label; loop heads: [] -/
def op49_6 : List AOper := [
 ⟨(some 6), (.move (.tmp 0)), none, []⟩,
 ⟨(some 7), (.nilCheck (.tmp 6)), none, [0]⟩,
 ⟨(some 8), (.fieldAddr 1 (.tmp 7)), none, [1]⟩,
 ⟨(some 9), (.load true 2 (.tmp 8)), none, [2]⟩,
 ⟨(some 10), (.move (.tmp 0)), none, []⟩,
 ⟨(some 11), (.nilCheck (.tmp 10)), none, [4]⟩,
 ⟨(some 12), (.fieldAddr 3 (.tmp 11)), none, [5]⟩,
 ⟨(some 13), (.load false 1 (.tmp 12)), none, [6]⟩,
 ⟨(some 14), (.indexAddrS 2 (.tmp 13) (.const (.int .i64 0))), none, [7]⟩,
 ⟨(some 15), (.load true 2 (.tmp 14)), none, [8]⟩,
 ⟨(some 16), (.callF 69 [(.tmp 9), (.tmp 15)]), none, [3, 9]⟩,
 ⟨(some 17), (.un .not (.tmp 16)), none, [10]⟩]
@[go_sem ↓] theorem op49_6_run {K : AExit → Fr → Store → Prop} {fr : Fr} {σ : Store} : wp Try.prog (.reg op49_6 true [0, 17]) K fr σ = wpOpsD Try.prog (Kreg [0, 17] K) op49_6 (Fr.get fr) σ := wp_draw (by kernel_rfl)
def op49_19 : List AOper := [
 ⟨(some 19), (.move (.tmp 0)), none, []⟩,
 ⟨(some 20), (.nilCheck (.tmp 19)), none, [0]⟩,
 ⟨(some 21), (.fieldAddr 1 (.tmp 20)), none, [1]⟩,
 ⟨(some 22), (.load true 2 (.tmp 21)), none, [2]⟩,
 ⟨(some 23), (.move (.tmp 0)), none, []⟩,
 ⟨(some 24), (.nilCheck (.tmp 23)), none, [4]⟩,
 ⟨(some 25), (.fieldAddr 3 (.tmp 24)), none, [5]⟩,
 ⟨(some 26), (.load false 1 (.tmp 25)), none, [6]⟩,
 ⟨(some 27), (.indexAddrS 2 (.tmp 26) (.const (.int .i64 0))), none, [7]⟩,
 ⟨(some 28), (.fieldAddr 1 (.tmp 27)), none, [8]⟩,
 ⟨(some 29), (.load false 1 (.tmp 28)), none, [9]⟩,
 ⟨(some 30), (.callF 63 [(.tmp 22), (.tmp 29)]), none, [3, 10]⟩,
 ⟨(some 18), (.move (.tmp 30)), none, [11]⟩,
 ⟨(some 31), (.extract (.tmp 18) 0), none, [12]⟩,
 ⟨(some 32), (.extract (.tmp 18) 1), none, [12]⟩,
 ⟨(some 33), (.extract (.tmp 18) 2), none, [12]⟩,
 ⟨(some 3), (.move (.tmp 31)), none, [13, 11, 0, 1, 2, 3, 4, 5, 6, 7, 8, 9, 10, 11, 12, 13]⟩,
 ⟨(some 4), (.move (.tmp 32)), none, [14, 16, 0, 1, 2, 3, 4, 5, 6, 7, 8, 9, 10, 11, 12, 13, 14, 16]⟩,
 ⟨(some 5), (.move (.tmp 33)), none, [15, 17, 0, 1, 2, 3, 4, 5, 6, 7, 8, 9, 10, 11, 12, 13, 14, 15, 16, 17]⟩]
@[go_sem ↓] theorem op49_19_run {K : AExit → Fr → Store → Prop} {fr : Fr} {σ : Store} : wp Try.prog (.reg op49_19 true [0, 3]) K fr σ = wpOpsD Try.prog (Kreg [0, 3] K) op49_19 (Fr.get fr) σ := wp_draw (by kernel_rfl)
def ac49 : ACode :=
 (.seq
 (.reg [
 ⟨(some 2), (.move (.const (.bool false))), none, []⟩] false [0])
 (.seq
 (.seq
 (.reg op49_6 true [0, 17])
 (.cond (.tmp 17)
 (.seq
 (.reg [
 ⟨(some 2), (.move (.const (.bool true))), none, []⟩] false [2])
 .ret)
 .skip))
 (.seq
 (.reg op49_19 true [0, 3])
 (.seq
 (.reg [
 ⟨(some 34), (.move (.tmp 0)), none, []⟩,
 ⟨(some 35), (.nilCheck (.tmp 34)), none, []⟩,
 ⟨(some 36), (.fieldAddr 3 (.tmp 35)), none, []⟩,
 ⟨(some 37), (.load false 1 (.tmp 36)), none, []⟩,
 ⟨(some 38), (.indexAddrS 2 (.tmp 37) (.const (.int .i64 0))), none, []⟩,
 ⟨(some 39), (.fieldAddr 0 (.tmp 38)), none, []⟩,
 ⟨(some 40), (.load false 1 (.tmp 39)), none, []⟩,
 ⟨(some 41), (.move (.tmp 40)), none, []⟩,
 ⟨(some 42), (.move (.tmp 3)), (some (41, true)), []⟩,
 ⟨(some 43), (.move (.tmp 0)), (some (41, true)), []⟩,
 ⟨(some 44), (.nilCheck (.tmp 43)), (some (41, true)), []⟩,
 ⟨(some 45), (.fieldAddr 8 (.tmp 44)), (some (41, true)), []⟩,
 ⟨(some 46), (.fieldAddr 1 (.tmp 45)), (some (41, true)), []⟩,
 ⟨(some 47), (.load false 1 (.tmp 46)), (some (41, true)), []⟩,
 ⟨(some 48), (.bin .neq (.tmp 42) (.tmp 47)), (some (41, true)), []⟩,
 ⟨(some 49), (.pick (.tmp 41) (.tmp 48) (.const (.bool false))), none, []⟩,
 ⟨(some 2), (.move (.tmp 49)), none, []⟩] false [2])
 .ret))))
-- simp set: ac49, op49_6, op49_19
theorem isF49 : IsFunc Try.prog 49 1 ac49 [.tmp 2] := isFunc_of _ [(0, [0]), (1, [0, 17]), (2, [2]), (3, [0, 3]), (4, [2])] Try.func49 (by kernel_rfl)
/-- (*waymark/walk.packet).hop; loop heads: [] -/
def op50_20 : List AOper := [
 ⟨(some 20), (.move (.tmp 0)), none, []⟩,
 ⟨(some 21), (.nilCheck (.tmp 20)), none, [0]⟩,
 ⟨(some 22), (.fieldAddr 0 (.tmp 21)), none, [1]⟩,
 ⟨(some 23), (.load false 1 (.tmp 22)), none, [2]⟩,
 ⟨(some 24), (.move (.tmp 0)), none, []⟩,
 ⟨(some 25), (.nilCheck (.tmp 24)), none, [4]⟩,
 ⟨(some 26), (.fieldAddr 8 (.tmp 25)), none, [5]⟩,
 ⟨(some 27), (.fieldAddr 1 (.tmp 26)), none, [6]⟩,
 ⟨(some 28), (.load false 1 (.tmp 27)), none, [7]⟩,
 ⟨(some 29), (.move (.tmp 0)), none, []⟩,
 ⟨(some 30), (.nilCheck (.tmp 29)), none, [9]⟩,
 ⟨(some 31), (.fieldAddr 3 (.tmp 30)), none, [10]⟩,
 ⟨(some 32), (.load false 1 (.tmp 31)), none, [11]⟩,
 ⟨(some 33), (.indexAddrS 2 (.tmp 32) (.const (.int .i64 0))), none, [12]⟩,
 ⟨(some 34), (.fieldAddr 1 (.tmp 33)), none, [13]⟩,
 ⟨(some 35), (.load false 1 (.tmp 34)), none, [14]⟩,
 ⟨(some 36), (.callF 70 [(.tmp 23), (.tmp 28), (.tmp 35)]), none, [3, 8, 15]⟩,
 ⟨(some 4), (.move (.tmp 36)), none, [16, 16, 0, 1, 2, 3, 4, 5, 6, 7, 8, 9, 10, 11, 12, 13, 14, 15, 16]⟩]
@[go_sem ↓] theorem op50_20_run {K : AExit → Fr → Store → Prop} {fr : Fr} {σ : Store} : wp Try.prog (.reg op50_20 true [0, 4]) K fr σ = wpOpsD Try.prog (Kreg [0, 4] K) op50_20 (Fr.get fr) σ := wp_draw (by kernel_rfl)
def ac50 : ACode :=
 (.seq
 (.reg [
 ⟨(some 2), (.move (.const (.int .i64 0))), none, []⟩,
 ⟨(some 3), (.move (.const (.bool false))), none, []⟩] false [0])
 (.seq
 (.seq
 (.reg [
 ⟨(some 6), (.move (.tmp 0)), none, []⟩,
 ⟨(some 7), (.nilCheck (.tmp 6)), none, []⟩,
 ⟨(some 8), (.fieldAddr 3 (.tmp 7)), none, []⟩,
 ⟨(some 9), (.load false 1 (.tmp 8)), none, []⟩,
 ⟨(some 10), (.indexAddrS 2 (.tmp 9) (.const (.int .i64 0))), none, []⟩,
 ⟨(some 11), (.fieldAddr 0 (.tmp 10)), none, []⟩,
 ⟨(some 12), (.load false 1 (.tmp 11)), none, []⟩] false [0, 12])
 (.cond (.tmp 12)
 (.seq
 (.reg [
 ⟨(some 13), (.move (.tmp 0)), none, []⟩,
 ⟨(some 14), (.nilCheck (.tmp 13)), none, []⟩,
 ⟨(some 15), (.fieldAddr 3 (.tmp 14)), none, []⟩,
 ⟨(some 16), (.load false 1 (.tmp 15)), none, []⟩,
 ⟨(some 17), (.indexAddrS 2 (.tmp 16) (.const (.int .i64 0))), none, []⟩,
 ⟨(some 18), (.fieldAddr 1 (.tmp 17)), none, []⟩,
 ⟨(some 19), (.load false 1 (.tmp 18)), none, []⟩,
 ⟨(some 2), (.move (.tmp 19)), none, []⟩,
 ⟨(some 3), (.move (.const (.bool true))), none, []⟩] false [2, 3])
 .ret)
 .skip))
 (.seq
 (.reg op50_20 true [0, 4])
 (.seq
 (.reg [
 ⟨(some 37), (.move (.tmp 4)), none, []⟩,
 ⟨(some 38), (.lenS (.tmp 37)), none, []⟩,
 ⟨(some 5), (.move (.tmp 38)), none, []⟩] false [0, 4, 5])
 (.seq
 (.seq
 (.reg [
 ⟨(some 39), (.move (.tmp 5)), none, []⟩,
 ⟨(some 40), (.bin .eql (.tmp 39) (.const (.int .i64 0))), none, []⟩] false [0, 4, 5, 40])
 (.cond (.tmp 40)
 (.seq
 (.reg [
 ⟨(some 2), (.move (.const (.int .i64 0))), none, []⟩,
 ⟨(some 3), (.move (.const (.bool false))), none, []⟩] false [2, 3])
 .ret)
 .skip))
 (.seq
 (.reg [
 ⟨(some 41), (.move (.tmp 4)), none, []⟩,
 ⟨(some 42), (.move (.tmp 0)), none, []⟩,
 ⟨(some 43), (.nilCheck (.tmp 42)), none, []⟩,
 ⟨(some 44), (.fieldAddr 4 (.tmp 43)), none, []⟩,
 ⟨(some 45), (.load false 1 (.tmp 44)), none, []⟩,
 ⟨(some 46), (.move (.tmp 5)), none, []⟩,
 ⟨(some 47), (.bin .rem (.tmp 45) (.tmp 46)), none, []⟩,
 ⟨(some 48), (.move (.tmp 5)), none, []⟩,
 ⟨(some 49), (.bin .add (.tmp 47) (.tmp 48)), none, []⟩,
 ⟨(some 50), (.move (.tmp 5)), none, []⟩,
 ⟨(some 51), (.bin .rem (.tmp 49) (.tmp 50)), none, []⟩,
 ⟨(some 52), (.indexAddrS 1 (.tmp 41) (.tmp 51)), none, []⟩,
 ⟨(some 53), (.load false 1 (.tmp 52)), none, []⟩,
 ⟨(some 2), (.move (.tmp 53)), none, []⟩,
 ⟨(some 3), (.move (.const (.bool true))), none, []⟩] false [2, 3])
 .ret))))))
-- simp set: ac50, op50_20
theorem isF50 : IsFunc Try.prog 50 1 ac50 [.tmp 2, .tmp 3] := isFunc_of _ [(0, [0]), (1, [0, 12]), (2, [2, 3]), (3, [0, 4]), (4, [0, 4, 5]), (5, [0, 4, 5, 40]), (6, [2, 3]), (7, [2, 3])] Try.func50 (by kernel_rfl)
/-- waymark/spf.Up; loop heads: [] -/
def ac51 : ACode :=
 (.seq
 (.reg [
 ⟨(some 4), (.move (.const (.bool false))), none, []⟩] false [0, 1])
 (.seq
 (.reg [
 ⟨(some 5), (.move (.tmp 1)), none, []⟩,
 ⟨(some 6), (.bin .quo (.tmp 5) (.const (.int .i64 2))), none, []⟩,
 ⟨(some 7), (.move (.tmp 0)), none, []⟩,
 ⟨(some 8), (.lenS (.tmp 7)), none, []⟩,
 ⟨(some 9), (.bin .geq (.tmp 6) (.tmp 8)), none, []⟩,
 ⟨(some 10), (.move (.tmp 9)), none, []⟩,
 ⟨(some 11), (.move (.tmp 0)), (some (10, false)), []⟩,
 ⟨(some 12), (.move (.tmp 1)), (some (10, false)), []⟩,
 ⟨(some 13), (.bin .quo (.tmp 12) (.const (.int .i64 2))), (some (10, false)), []⟩,
 ⟨(some 14), (.indexAddrS 1 (.tmp 11) (.tmp 13)), (some (10, false)), []⟩,
 ⟨(some 15), (.load false 1 (.tmp 14)), (some (10, false)), []⟩,
 ⟨(some 16), (.un .not (.tmp 15)), (some (10, false)), []⟩,
 ⟨(some 17), (.pick (.tmp 10) (.const (.bool true)) (.tmp 16)), none, []⟩,
 ⟨(some 4), (.move (.tmp 17)), none, []⟩] false [4])
 .ret))
-- simp set: ac51
theorem isF51 : IsFunc Try.prog 51 2 ac51 [.tmp 4] := isFunc_of _ [(0, [0, 1]), (1, [4])] Try.func51 (by kernel_rfl)
/-- (*waymark/walk.packet).cross; loop heads: [] -/
def ac52 : ACode :=
 (.seq
 (.seq
 (.reg [
 ⟨(some 4), (.move (.tmp 0)), none, []⟩,
 ⟨(some 5), (.nilCheck (.tmp 4)), none, []⟩,
 ⟨(some 6), (.fieldAddr 3 (.tmp 5)), none, []⟩,
 ⟨(some 7), (.load false 1 (.tmp 6)), none, []⟩,
 ⟨(some 8), (.indexAddrS 2 (.tmp 7) (.const (.int .i64 0))), none, []⟩,
 ⟨(some 9), (.fieldAddr 0 (.tmp 8)), none, []⟩,
 ⟨(some 10), (.load false 1 (.tmp 9)), none, []⟩] false [0, 1, 10])
 (.cond (.tmp 10)
 (.reg [
 ⟨(some 11), (.move (.tmp 0)), none, []⟩,
 ⟨(some 12), (.move (.tmp 0)), none, []⟩,
 ⟨(some 13), (.nilCheck (.tmp 12)), none, []⟩,
 ⟨(some 14), (.fieldAddr 3 (.tmp 13)), none, []⟩,
 ⟨(some 15), (.load false 1 (.tmp 14)), none, []⟩,
 ⟨(some 16), (.slice 2 (.tmp 15) (some (.const (.int .i64 1))) none none), none, []⟩,
 ⟨(some 17), (.nilCheck (.tmp 11)), none, []⟩,
 ⟨(some 18), (.fieldAddr 3 (.tmp 17)), none, []⟩,
 ⟨none, (.store 1 (.tmp 18) (.tmp 16)), none, []⟩] false [0, 1])
 .skip))
 (.seq
 (.reg [
 ⟨(some 19), (.move (.tmp 0)), none, []⟩,
 ⟨(some 20), (.move (.tmp 0)), none, []⟩,
 ⟨(some 21), (.nilCheck (.tmp 20)), none, []⟩,
 ⟨(some 22), (.fieldAddr 8 (.tmp 21)), none, []⟩,
 ⟨(some 23), (.fieldAddr 0 (.tmp 22)), none, []⟩,
 ⟨(some 24), (.load false 1 (.tmp 23)), none, []⟩,
 ⟨(some 25), (.move (.tmp 1)), none, []⟩,
 ⟨(some 26), (.buildSlice 1 1 [(.sc (.int .i64 0))] [(0, (.tmp 25))]), none, []⟩,
 ⟨(some 27), (.append 1 8 [(.sc (.int .i64 0))] (.tmp 24) (.tmp 26)), none, []⟩,
 ⟨(some 28), (.nilCheck (.tmp 19)), none, []⟩,
 ⟨(some 29), (.fieldAddr 8 (.tmp 28)), none, []⟩,
 ⟨(some 30), (.fieldAddr 0 (.tmp 29)), none, []⟩,
 ⟨none, (.store 1 (.tmp 30) (.tmp 27)), none, []⟩] false [0, 1])
 (.reg [
 ⟨(some 32), (.move (.tmp 0)), none, []⟩,
 ⟨(some 33), (.move (.tmp 0)), none, []⟩,
 ⟨(some 34), (.nilCheck (.tmp 33)), none, []⟩,
 ⟨(some 35), (.fieldAddr 1 (.tmp 34)), none, []⟩,
 ⟨(some 36), (.load true 2 (.tmp 35)), none, []⟩,
 ⟨(some 37), (.move (.tmp 1)), none, []⟩,
 ⟨(some 38), (.callF 63 [(.tmp 36), (.tmp 37)]), none, []⟩,
 ⟨(some 31), (.move (.tmp 38)), none, []⟩,
 ⟨(some 39), (.extract (.tmp 31) 0), none, []⟩,
 ⟨(some 40), (.extract (.tmp 31) 1), none, []⟩,
 ⟨(some 41), (.extract (.tmp 31) 2), none, []⟩,
 ⟨(some 42), (.nilCheck (.tmp 32)), none, []⟩,
 ⟨(some 43), (.fieldAddr 8 (.tmp 42)), none, []⟩,
 ⟨(some 44), (.fieldAddr 1 (.tmp 43)), none, []⟩,
 ⟨none, (.store 1 (.tmp 44) (.tmp 40)), none, []⟩] false [])))
-- simp set: ac52
theorem isF52 : IsFunc Try.prog 52 2 ac52 [] := isFunc_of _ [(0, [0, 1, 10]), (1, [0, 1]), (2, [0, 1])] Try.func52 (by kernel_rfl)
/-- (*waymark/walk.packet).around; loop heads: [] -/
def op53_8 : List AOper := [
 ⟨(some 8), (.move (.tmp 0)), none, []⟩,
 ⟨(some 9), (.nilCheck (.tmp 8)), none, [0]⟩,
 ⟨(some 10), (.fieldAddr 0 (.tmp 9)), none, [1]⟩,
 ⟨(some 11), (.load false 1 (.tmp 10)), none, [2]⟩,
 ⟨(some 12), (.move (.tmp 1)), none, []⟩,
 ⟨(some 13), (.move (.tmp 0)), none, []⟩,
 ⟨(some 14), (.callF 72 [(.tmp 13)]), none, [5]⟩,
 ⟨(some 15), (.move (.tmp 0)), none, []⟩,
 ⟨(some 16), (.nilCheck (.tmp 15)), none, [7]⟩,
 ⟨(some 17), (.fieldAddr 7 (.tmp 16)), none, [8]⟩,
 ⟨(some 18), (.load false 1 (.tmp 17)), none, [9]⟩,
 ⟨(some 19), (.callF 71 [(.tmp 11), (.tmp 12), (.tmp 14), (.tmp 18)]), none, [3, 4, 6, 10, 6]⟩,
 ⟨(some 7), (.move (.tmp 19)), none, [11]⟩,
 ⟨(some 20), (.extract (.tmp 7) 0), none, [12]⟩,
 ⟨(some 21), (.extract (.tmp 7) 1), none, [12]⟩,
 ⟨(some 5), (.move (.tmp 20)), none, [13, 11, 0, 1, 2, 3, 4, 5, 6, 7, 8, 9, 10, 11, 12, 13]⟩,
 ⟨(some 6), (.move (.tmp 21)), none, [14, 15, 0, 1, 2, 3, 4, 5, 6, 7, 8, 9, 10, 11, 12, 13, 14, 15]⟩]
@[go_sem ↓] theorem op53_8_run {K : AExit → Fr → Store → Prop} {fr : Fr} {σ : Store} : wp Try.prog (.reg op53_8 true [0, 5, 6]) K fr σ = wpOpsD Try.prog (Kreg [0, 5, 6] K) op53_8 (Fr.get fr) σ := wp_draw (by kernel_rfl)
def op53_22 : List AOper := [
 ⟨(some 22), (.move (.tmp 6)), none, []⟩,
 ⟨(some 23), (.bin .neq (.tmp 22) (.const (.int .i64 0))), none, [0]⟩,
 ⟨(some 24), (.move (.tmp 23)), none, [1]⟩,
 ⟨(some 25), (.move (.tmp 5)), (some (24, false)), [2]⟩,
 ⟨(some 26), (.lenS (.tmp 25)), (some (24, false)), [3, 2]⟩,
 ⟨(some 27), (.move (.tmp 0)), (some (24, false)), [2]⟩,
 ⟨(some 28), (.nilCheck (.tmp 27)), (some (24, false)), [5, 2]⟩,
 ⟨(some 29), (.fieldAddr 3 (.tmp 28)), (some (24, false)), [6, 2]⟩,
 ⟨(some 30), (.load false 1 (.tmp 29)), (some (24, false)), [7, 2]⟩,
 ⟨(some 31), (.lenS (.tmp 30)), (some (24, false)), [8, 2]⟩,
 ⟨(some 32), (.bin .add (.tmp 26) (.tmp 31)), (some (24, false)), [4, 9, 2]⟩,
 ⟨(some 33), (.bin .sub (.tmp 32) (.const (.int .i64 1))), (some (24, false)), [10, 2]⟩,
 ⟨(some 34), (.move (.tmp 0)), (some (24, false)), [2]⟩,
 ⟨(some 35), (.nilCheck (.tmp 34)), (some (24, false)), [12, 2]⟩,
 ⟨(some 36), (.fieldAddr 7 (.tmp 35)), (some (24, false)), [13, 2]⟩,
 ⟨(some 37), (.load false 1 (.tmp 36)), (some (24, false)), [14, 2]⟩,
 ⟨(some 38), (.bin .gtr (.tmp 33) (.tmp 37)), (some (24, false)), [11, 15, 2]⟩,
 ⟨(some 39), (.pick (.tmp 24) (.const (.bool true)) (.tmp 38)), none, [2, 16]⟩]
@[go_sem ↓] theorem op53_22_run {K : AExit → Fr → Store → Prop} {fr : Fr} {σ : Store} : wp Try.prog (.reg op53_22 true [0, 5, 39]) K fr σ = wpOpsD Try.prog (Kreg [0, 5, 39] K) op53_22 (Fr.get fr) σ := wp_draw (by kernel_rfl)
def op53_60 : List AOper := [
 ⟨(some 60), (.move (.tmp 0)), none, []⟩,
 ⟨(some 61), (.move (.tmp 0)), none, []⟩,
 ⟨(some 62), (.nilCheck (.tmp 61)), none, [1]⟩,
 ⟨(some 63), (.fieldAddr 8 (.tmp 62)), none, [2]⟩,
 ⟨(some 64), (.fieldAddr 4 (.tmp 63)), none, [3]⟩,
 ⟨(some 65), (.load false 1 (.tmp 64)), none, [4]⟩,
 ⟨(some 66), (.move (.tmp 0)), none, []⟩,
 ⟨(some 67), (.nilCheck (.tmp 66)), none, [6]⟩,
 ⟨(some 68), (.fieldAddr 3 (.tmp 67)), none, [7]⟩,
 ⟨(some 69), (.load false 1 (.tmp 68)), none, [8]⟩,
 ⟨(some 70), (.lenS (.tmp 69)), none, [9]⟩,
 ⟨(some 71), (.minmax true [(.tmp 65), (.tmp 70)]), none, [5, 10]⟩,
 ⟨(some 72), (.nilCheck (.tmp 60)), none, [0, 0, 1, 2, 3, 4, 5, 6, 7, 8, 9, 10, 11]⟩,
 ⟨(some 73), (.fieldAddr 8 (.tmp 72)), none, [12, 0, 1, 2, 3, 4, 5, 6, 7, 8, 9, 10, 11]⟩,
 ⟨(some 74), (.fieldAddr 4 (.tmp 73)), none, [13, 0, 1, 2, 3, 4, 5, 6, 7, 8, 9, 10, 11]⟩,
 ⟨none, (.store 1 (.tmp 74) (.tmp 71)), none, [14, 11, 0, 1, 2, 3, 4, 5, 6, 7, 8, 9, 10, 11]⟩]
@[go_sem ↓] theorem op53_60_run {K : AExit → Fr → Store → Prop} {fr : Fr} {σ : Store} : wp Try.prog (.reg op53_60 true []) K fr σ = wpOpsD Try.prog (Kreg [] K) op53_60 (Fr.get fr) σ := wp_draw (by kernel_rfl)
def ac53 : ACode :=
 (.seq
 (.reg [
 ⟨(some 4), (.move (.const (.bool false))), none, []⟩] false [0, 1])
 (.seq
 (.reg op53_8 true [0, 5, 6])
 (.seq
 (.seq
 (.reg op53_22 true [0, 5, 39])
 (.cond (.tmp 39)
 (.seq
 (.reg [
 ⟨(some 4), (.move (.const (.bool false))), none, []⟩] false [4])
 .ret)
 .skip))
 (.seq
 (.reg [
 ⟨(some 40), (.move (.tmp 0)), none, []⟩,
 ⟨(some 41), (.move (.tmp 5)), none, []⟩,
 ⟨(some 42), (.move (.tmp 0)), none, []⟩,
 ⟨(some 43), (.nilCheck (.tmp 42)), none, []⟩,
 ⟨(some 44), (.fieldAddr 3 (.tmp 43)), none, []⟩,
 ⟨(some 45), (.load false 1 (.tmp 44)), none, []⟩,
 ⟨(some 46), (.slice 2 (.tmp 45) (some (.const (.int .i64 1))) none none), none, []⟩,
 ⟨(some 47), (.buildSlice 1 2 [.nils] [(0, (.tmp 41)), (1, (.tmp 46))]), none, []⟩,
 ⟨(some 48), (.callF 73 [(.tmp 47)]), none, []⟩,
 ⟨(some 49), (.nilCheck (.tmp 40)), none, []⟩,
 ⟨(some 50), (.fieldAddr 3 (.tmp 49)), none, []⟩,
 ⟨none, (.store 1 (.tmp 50) (.tmp 48)), none, []⟩] false [0])
 (.seq
 (.reg [
 ⟨(some 51), (.move (.tmp 0)), none, []⟩,
 ⟨(some 52), (.nilCheck (.tmp 51)), none, []⟩,
 ⟨(some 53), (.fieldAddr 8 (.tmp 52)), none, []⟩,
 ⟨(some 54), (.fieldAddr 3 (.tmp 53)), none, []⟩,
 ⟨(some 55), (.load false 1 (.tmp 54)), none, []⟩,
 ⟨(some 56), (.bin .add (.tmp 55) (.const (.int .i64 1))), none, []⟩,
 ⟨(some 57), (.nilCheck (.tmp 51)), none, []⟩,
 ⟨(some 58), (.fieldAddr 8 (.tmp 57)), none, []⟩,
 ⟨(some 59), (.fieldAddr 3 (.tmp 58)), none, []⟩,
 ⟨none, (.store 1 (.tmp 59) (.tmp 56)), none, []⟩] false [0])
 (.seq
 (.reg op53_60 true [])
 (.seq
 (.reg [
 ⟨(some 4), (.move (.const (.bool true))), none, []⟩] false [4])
 .ret)))))))
-- simp set: ac53, op53_8, op53_22, op53_60
theorem isF53 : IsFunc Try.prog 53 2 ac53 [.tmp 4] := isFunc_of _ [(0, [0, 1]), (1, [0, 5, 6]), (2, [0, 5, 39]), (3, [4]), (4, [0]), (5, [0]), (7, [4])] Try.func53 (by kernel_rfl)
/-- waymark/waymarkref15.Cost; loop heads: [[3, 4, 9, 10, 11, 12]] -/
def op54_33 : List AOper := [
 ⟨(some 33), (.load true 2 (.tmp 3)), none, []⟩,
 ⟨(some 34), (.move (.tmp 10)), none, []⟩,
 ⟨(some 35), (.move (.tmp 9)), none, []⟩,
 ⟨(some 36), (.move (.tmp 12)), none, []⟩,
 ⟨(some 37), (.indexAddrS 1 (.tmp 35) (.tmp 36)), none, [2, 3]⟩,
 ⟨(some 38), (.load false 1 (.tmp 37)), none, [4]⟩,
 ⟨(some 39), (.callF 41 [(.tmp 33), (.tmp 34), (.tmp 38)]), none, [0, 1, 5]⟩,
 ⟨(some 40), (.move (.tmp 9)), none, []⟩,
 ⟨(some 41), (.move (.tmp 12)), none, []⟩,
 ⟨(some 42), (.bin .add (.tmp 41) (.const (.int .i64 1))), none, [8]⟩,
 ⟨(some 43), (.indexAddrS 1 (.tmp 40) (.tmp 42)), none, [7, 9]⟩,
 ⟨(some 44), (.load false 1 (.tmp 43)), none, [10]⟩,
 ⟨(some 45), (.indexAddrS 1 (.tmp 39) (.tmp 44)), none, [6, 11]⟩,
 ⟨(some 46), (.load false 1 (.tmp 45)), none, [12]⟩,
 ⟨(some 13), (.move (.tmp 46)), none, [13, 6, 0, 1, 2, 3, 4, 5, 6, 7, 8, 9, 10, 11, 12, 13]⟩]
@[go_sem ↓] theorem op54_33_run {K : AExit → Fr → Store → Prop} {fr : Fr} {σ : Store} : wp Try.prog (.reg op54_33 true [3, 4, 9, 10, 11, 12, 13]) K fr σ = wpOpsD Try.prog (Kreg [3, 4, 9, 10, 11, 12, 13] K) op54_33 (Fr.get fr) σ := wp_draw (by kernel_rfl)
def ac54 : ACode :=
 (.seq
 (.reg [
 ⟨(some 3), (.box (.tmp 0)), none, []⟩,
 ⟨(some 4), (.box (.tmp 1)), none, []⟩,
 ⟨(some 6), (.move (.const (.int .i64 0))), none, []⟩,
 ⟨(some 7), (.move (.const (.int .i64 0))), none, []⟩] false [2, 3, 4])
 (.seq
 (.reg [
 ⟨(some 14), (.load true 2 (.tmp 3)), none, []⟩,
 ⟨(some 15), (.load true 7 (.tmp 4)), none, []⟩,
 ⟨(some 16), (.callF 74 [(.tmp 14), (.tmp 15)]), none, []⟩,
 ⟨(some 8), (.move (.tmp 16)), none, []⟩] false [2, 3, 4, 8])
 (.seq
 (.seq
 (.reg [
 ⟨(some 17), (.move (.tmp 8)), none, []⟩,
 ⟨(some 18), (.bin .neq (.tmp 17) (.const (.int .i64 0))), none, []⟩] false [2, 3, 4, 8, 18])
 (.cond (.tmp 18)
 (.seq
 (.reg [
 ⟨(some 19), (.move (.tmp 8)), none, []⟩,
 ⟨(some 6), (.move (.const (.int .i64 0))), none, []⟩,
 ⟨(some 7), (.move (.tmp 19)), none, []⟩] false [6, 7])
 .ret)
 .skip))
 (.seq
 (.reg [
 ⟨(some 20), (.load true 7 (.tmp 4)), none, []⟩,
 ⟨(some 21), (.callF 55 [(.tmp 20)]), none, []⟩,
 ⟨(some 9), (.move (.tmp 21)), none, []⟩] false [2, 3, 4, 9])
 (.seq
 (.reg [
 ⟨(some 22), (.load true 2 (.tmp 3)), none, []⟩,
 ⟨(some 23), (.load true 7 (.tmp 4)), none, []⟩,
 ⟨(some 24), (.move (.tmp 2)), none, []⟩,
 ⟨(some 25), (.callF 56 [(.tmp 22), (.tmp 23), (.tmp 24)]), none, []⟩,
 ⟨(some 10), (.move (.tmp 25)), none, []⟩] false [3, 4, 9, 10])
 (.seq
 (.reg [
 ⟨(some 11), (.move (.const (.int .i64 0))), none, []⟩] false [3, 4, 9, 10, 11])
 (.seq
 (.seq
 (.reg [
 ⟨(some 12), (.move (.const (.int .i64 0))), none, []⟩] false [3, 4, 9, 10, 11, 12])
 (.block 0
 (.loop
 (.seq
 (.seq
 (.reg [
 ⟨(some 26), (.move (.tmp 12)), none, []⟩,
 ⟨(some 27), (.bin .add (.tmp 26) (.const (.int .i64 1))), none, []⟩,
 ⟨(some 28), (.move (.tmp 9)), none, []⟩,
 ⟨(some 29), (.lenS (.tmp 28)), none, []⟩,
 ⟨(some 30), (.bin .lss (.tmp 27) (.tmp 29)), none, []⟩] false [3, 4, 9, 10, 11, 12, 30])
 (.cond (.tmp 30)
 .skip
 (.exit 0)))
 (.seq
 (.block 1
 (.seq
 (.reg op54_33 true [3, 4, 9, 10, 11, 12, 13])
 (.seq
 (.seq
 (.reg [
 ⟨(some 47), (.move (.tmp 13)), none, []⟩,
 ⟨(some 48), (.bin .lss (.tmp 47) (.const (.int .i64 0))), none, []⟩] false [3, 4, 9, 10, 11, 12, 13, 48])
 (.cond (.tmp 48)
 (.seq
 (.reg [
 ⟨(some 6), (.move (.const (.int .i64 0))), none, []⟩,
 ⟨(some 7), (.move (.const (.int .i64 8))), none, []⟩] false [6, 7])
 .ret)
 .skip))
 (.reg [
 ⟨(some 49), (.move (.tmp 11)), none, []⟩,
 ⟨(some 50), (.move (.tmp 13)), none, []⟩,
 ⟨(some 51), (.bin .add (.tmp 49) (.tmp 50)), none, []⟩,
 ⟨(some 11), (.move (.tmp 51)), none, []⟩] false [3, 4, 9, 10, 11, 12]))))
 (.reg [
 ⟨(some 31), (.move (.tmp 12)), none, []⟩,
 ⟨(some 32), (.bin .add (.tmp 31) (.const (.int .i64 1))), none, []⟩,
 ⟨(some 12), (.move (.tmp 32)), none, []⟩] false [3, 4, 9, 10, 11, 12]))))))
 (.seq
 (.seq
 (.reg [
 ⟨(some 52), (.fieldAddr 2 (.tmp 4)), none, []⟩,
 ⟨(some 53), (.load false 1 (.tmp 52)), none, []⟩,
 ⟨(some 54), (.bin .gtr (.tmp 53) (.const (.int .i64 0))), none, []⟩,
 ⟨(some 55), (.move (.tmp 54)), none, []⟩,
 ⟨(some 56), (.move (.tmp 11)), (some (55, true)), []⟩,
 ⟨(some 57), (.fieldAddr 2 (.tmp 4)), (some (55, true)), []⟩,
 ⟨(some 58), (.load false 1 (.tmp 57)), (some (55, true)), []⟩,
 ⟨(some 59), (.bin .gtr (.tmp 56) (.tmp 58)), (some (55, true)), []⟩,
 ⟨(some 60), (.pick (.tmp 55) (.tmp 59) (.const (.bool false))), none, []⟩] false [11, 60])
 (.cond (.tmp 60)
 (.seq
 (.reg [
 ⟨(some 6), (.move (.const (.int .i64 0))), none, []⟩,
 ⟨(some 7), (.move (.const (.int .i64 8))), none, []⟩] false [6, 7])
 .ret)
 .skip))
 (.seq
 (.reg [
 ⟨(some 61), (.move (.tmp 11)), none, []⟩,
 ⟨(some 6), (.move (.tmp 61)), none, []⟩,
 ⟨(some 7), (.move (.const (.int .i64 0))), none, []⟩] false [6, 7])
 .ret)))))))))
-- simp set: ac54, op54_33
theorem isF54 : IsFunc Try.prog 54 3 ac54 [.tmp 6, .tmp 7] := isFunc_of _ [(0, [2, 3, 4]), (1, [2, 3, 4, 8]), (2, [2, 3, 4, 8, 18]), (3, [6, 7]), (4, [2, 3, 4, 9]), (5, [3, 4, 9, 10]), (6, [3, 4, 9, 10, 11]), (7, [3, 4, 9, 10, 11, 12]), (8, [3, 4, 9, 10, 11, 12, 30]), (10, [3, 4, 9, 10, 11, 12, 13]), (11, [3, 4, 9, 10, 11, 12, 13, 48]), (12, [6, 7]), (13, [3, 4, 9, 10, 11, 12]), (9, [3, 4, 9, 10, 11, 12]), (14, [11, 60]), (15, [6, 7]), (16, [6, 7])] Try.func54 (by kernel_rfl)
/-- waymark/waymarkref15.points; loop heads: [] -/
def op55_3 : List AOper := [
 ⟨(some 3), (.fieldAddr 0 (.tmp 1)), none, []⟩,
 ⟨(some 4), (.load false 1 (.tmp 3)), none, [0]⟩,
 ⟨(some 5), (.buildSlice 1 1 [(.sc (.int .i64 0))] [(0, (.tmp 4))]), none, [1]⟩,
 ⟨(some 6), (.fieldAddr 3 (.tmp 1)), none, []⟩,
 ⟨(some 7), (.load false 1 (.tmp 6)), none, [3]⟩,
 ⟨(some 8), (.append 1 8 [(.sc (.int .i64 0))] (.tmp 5) (.tmp 7)), none, [2, 4]⟩,
 ⟨(some 9), (.fieldAddr 1 (.tmp 1)), none, []⟩,
 ⟨(some 10), (.load false 1 (.tmp 9)), none, [6]⟩,
 ⟨(some 11), (.buildSlice 1 1 [(.sc (.int .i64 0))] [(0, (.tmp 10))]), none, [7]⟩,
 ⟨(some 12), (.append 1 8 [(.sc (.int .i64 0))] (.tmp 8) (.tmp 11)), none, [5, 8, 5]⟩,
 ⟨(some 2), (.move (.tmp 12)), none, [9, 9, 0, 1, 2, 3, 4, 5, 6, 7, 8, 9]⟩]
def ac55 : ACode :=
 (.seq
 (.reg [
 ⟨(some 1), (.box (.tmp 0)), none, []⟩,
 ⟨(some 2), (.move (.const (.slice none 0 0))), none, []⟩] false [1])
 (.seq
 (.reg op55_3 true [2])
 .ret))
-- simp set: ac55, op55_3
theorem isF55 : IsFunc Try.prog 55 1 ac55 [.tmp 2] := isFunc_of _ [(0, [1]), (1, [2])] Try.func55 (by kernel_rfl)
/-- waymark/waymarkref1.Pruned; loop heads: [[2, 3, 4, 7, 8]] -/
def ac56 : ACode :=
 (.seq
 (.reg [
 ⟨(some 3), (.box (.tmp 0)), none, []⟩,
 ⟨(some 4), (.box (.tmp 1)), none, []⟩,
 ⟨(some 6), (.move (.const (.slice none 0 0))), none, []⟩] false [2, 3, 4])
 (.seq
 (.seq
 (.reg [
 ⟨(some 10), (.load true 2 (.tmp 3)), none, []⟩,
 ⟨(some 11), (.load true 7 (.tmp 4)), none, []⟩,
 ⟨(some 12), (.callF 74 [(.tmp 10), (.tmp 11)]), none, []⟩,
 ⟨(some 13), (.bin .neq (.tmp 12) (.const (.int .i64 0))), none, []⟩] false [2, 3, 4, 13])
 (.cond (.tmp 13)
 (.seq
 (.reg [
 ⟨(some 6), (.move (.const (.slice none 0 0))), none, []⟩] false [6])
 .ret)
 .skip))
 (.seq
 (.reg [
 ⟨(some 14), (.fieldAddr 1 (.tmp 3)), none, []⟩,
 ⟨(some 15), (.load false 1 (.tmp 14)), none, []⟩,
 ⟨(some 16), (.lenS (.tmp 15)), none, []⟩,
 ⟨(some 17), (.makeSlice 1 1 [(.sc (.bool false))] (.tmp 16) (.tmp 16)), none, []⟩,
 ⟨(some 7), (.move (.tmp 17)), none, []⟩] false [2, 3, 4, 7])
 (.seq
 (.seq
 (.reg [
 ⟨(some 8), (.move (.const (.int .i64 0))), none, []⟩] false [2, 3, 4, 7, 8])
 (.block 0
 (.loop
 (.seq
 (.seq
 (.reg [
 ⟨(some 18), (.move (.tmp 8)), none, []⟩,
 ⟨(some 19), (.fieldAddr 1 (.tmp 3)), none, []⟩,
 ⟨(some 20), (.load false 1 (.tmp 19)), none, []⟩,
 ⟨(some 21), (.lenS (.tmp 20)), none, []⟩,
 ⟨(some 22), (.bin .lss (.tmp 18) (.tmp 21)), none, []⟩] false [2, 3, 4, 7, 8, 22])
 (.cond (.tmp 22)
 .skip
 (.exit 0)))
 (.seq
 (.block 1
 (.seq
 (.reg [
 ⟨(some 25), (.fieldAddr 1 (.tmp 3)), none, []⟩,
 ⟨(some 26), (.load false 1 (.tmp 25)), none, []⟩,
 ⟨(some 27), (.move (.tmp 8)), none, []⟩,
 ⟨(some 28), (.indexAddrS 4 (.tmp 26) (.tmp 27)), none, []⟩,
 ⟨(some 29), (.load true 4 (.tmp 28)), none, []⟩,
 ⟨(some 9), (.alloc [(.sc (.int .i64 0)), (.sc (.int .i64 0)), (.sc (.int .i64 0)), (.sc (.int .i64 0))]), none, []⟩,
 ⟨none, (.store 4 (.tmp 9) (.tmp 29)), none, []⟩] false [2, 3, 4, 7, 8, 9])
 (.reg [
 ⟨(some 30), (.move (.tmp 7)), none, []⟩,
 ⟨(some 31), (.move (.tmp 8)), none, []⟩,
 ⟨(some 32), (.move (.tmp 2)), none, []⟩,
 ⟨(some 33), (.move (.tmp 8)), none, []⟩,
 ⟨(some 34), (.callF 17 [(.tmp 32), (.tmp 33)]), none, []⟩,
 ⟨(some 35), (.move (.tmp 34)), none, []⟩,
 ⟨(some 36), (.fieldAddr 5 (.tmp 4)), (some (35, false)), []⟩,
 ⟨(some 37), (.load false 1 (.tmp 36)), (some (35, false)), []⟩,
 ⟨(some 38), (.move (.tmp 8)), (some (35, false)), []⟩,
 ⟨(some 39), (.callF 75 [(.tmp 37), (.tmp 38)]), (some (35, false)), []⟩,
 ⟨(some 40), (.pick (.tmp 35) (.const (.bool true)) (.tmp 39)), none, []⟩,
 ⟨(some 41), (.move (.tmp 40)), none, []⟩,
 ⟨(some 42), (.fieldAddr 6 (.tmp 4)), (some (41, false)), []⟩,
 ⟨(some 43), (.load false 1 (.tmp 42)), (some (41, false)), []⟩,
 ⟨(some 44), (.fieldAddr 3 (.tmp 9)), (some (41, false)), []⟩,
 ⟨(some 45), (.load false 1 (.tmp 44)), (some (41, false)), []⟩,
 ⟨(some 46), (.callF 75 [(.tmp 43), (.tmp 45)]), (some (41, false)), []⟩,
 ⟨(some 47), (.pick (.tmp 41) (.const (.bool true)) (.tmp 46)), none, []⟩,
 ⟨(some 48), (.move (.tmp 47)), none, []⟩,
 ⟨(some 49), (.fieldAddr 4 (.tmp 4)), (some (48, false)), []⟩,
 ⟨(some 50), (.load false 1 (.tmp 49)), (some (48, false)), []⟩,
 ⟨(some 51), (.fieldAddr 0 (.tmp 9)), (some (48, false)), []⟩,
 ⟨(some 52), (.load false 1 (.tmp 51)), (some (48, false)), []⟩,
 ⟨(some 53), (.callF 75 [(.tmp 50), (.tmp 52)]), (some (48, false)), []⟩,
 ⟨(some 54), (.pick (.tmp 48) (.const (.bool true)) (.tmp 53)), none, []⟩,
 ⟨(some 55), (.move (.tmp 54)), none, []⟩,
 ⟨(some 56), (.fieldAddr 4 (.tmp 4)), (some (55, false)), []⟩,
 ⟨(some 57), (.load false 1 (.tmp 56)), (some (55, false)), []⟩,
 ⟨(some 58), (.fieldAddr 1 (.tmp 9)), (some (55, false)), []⟩,
 ⟨(some 59), (.load false 1 (.tmp 58)), (some (55, false)), []⟩,
 ⟨(some 60), (.callF 75 [(.tmp 57), (.tmp 59)]), (some (55, false)), []⟩,
 ⟨(some 61), (.pick (.tmp 55) (.const (.bool true)) (.tmp 60)), none, []⟩,
 ⟨(some 62), (.indexAddrS 1 (.tmp 30) (.tmp 31)), none, []⟩,
 ⟨none, (.store 1 (.tmp 62) (.tmp 61)), none, []⟩] false [2, 3, 4, 7, 8])))
 (.reg [
 ⟨(some 23), (.move (.tmp 8)), none, []⟩,
 ⟨(some 24), (.bin .add (.tmp 23) (.const (.int .i64 1))), none, []⟩,
 ⟨(some 8), (.move (.tmp 24)), none, []⟩] false [2, 3, 4, 7, 8]))))))
 (.seq
 (.reg [
 ⟨(some 63), (.move (.tmp 7)), none, []⟩,
 ⟨(some 6), (.move (.tmp 63)), none, []⟩] false [6])
 .ret)))))
-- simp set: ac56
theorem isF56 : IsFunc Try.prog 56 3 ac56 [.tmp 6] := isFunc_of _ [(0, [2, 3, 4]), (1, [2, 3, 4, 13]), (2, [6]), (3, [2, 3, 4, 7]), (4, [2, 3, 4, 7, 8]), (5, [2, 3, 4, 7, 8, 22]), (7, [2, 3, 4, 7, 8, 9]), (8, [2, 3, 4, 7, 8]), (6, [2, 3, 4, 7, 8]), (9, [6])] Try.func56 (by kernel_rfl)
/-- waymark/waymarkref15.come; loop heads: [[0, 3, 4]] -/
def op57_5 : List AOper := [
 ⟨(some 5), (.indexAddrA 2 1 (.tmp 3) (.const (.int .i64 1))), none, []⟩,
 ⟨(some 6), (.load false 1 (.tmp 5)), none, [0]⟩,
 ⟨(some 7), (.bin .geq (.tmp 6) (.const (.int .i64 0))), none, [1]⟩,
 ⟨(some 8), (.move (.tmp 7)), none, [2]⟩,
 ⟨(some 9), (.indexAddrA 2 1 (.tmp 3) (.const (.int .i64 1))), (some (8, true)), [3]⟩,
 ⟨(some 10), (.load false 1 (.tmp 9)), (some (8, true)), [4, 3]⟩,
 ⟨(some 11), (.bin .add (.tmp 10) (.const (.int .i64 1))), (some (8, true)), [5, 3]⟩,
 ⟨(some 12), (.move (.tmp 0)), (some (8, true)), [3]⟩,
 ⟨(some 13), (.lenS (.tmp 12)), (some (8, true)), [7, 3]⟩,
 ⟨(some 14), (.bin .lss (.tmp 11) (.tmp 13)), (some (8, true)), [6, 8, 3]⟩,
 ⟨(some 15), (.pick (.tmp 8) (.tmp 14) (.const (.bool false))), none, [3, 9]⟩,
 ⟨(some 16), (.move (.tmp 15)), none, [10, 3]⟩,
 ⟨(some 17), (.move (.tmp 0)), (some (16, true)), [11]⟩,
 ⟨(some 18), (.indexAddrA 2 1 (.tmp 3) (.const (.int .i64 1))), (some (16, true)), [11]⟩,
 ⟨(some 19), (.load false 1 (.tmp 18)), (some (16, true)), [13, 11]⟩,
 ⟨(some 20), (.bin .add (.tmp 19) (.const (.int .i64 1))), (some (16, true)), [14, 11]⟩,
 ⟨(some 21), (.indexAddrS 1 (.tmp 17) (.tmp 20)), (some (16, true)), [12, 15, 11]⟩,
 ⟨(some 22), (.load false 1 (.tmp 21)), (some (16, true)), [16, 11]⟩,
 ⟨(some 23), (.indexAddrA 2 1 (.tmp 3) (.const (.int .i64 0))), (some (16, true)), [11]⟩,
 ⟨(some 24), (.load false 1 (.tmp 23)), (some (16, true)), [18, 11]⟩,
 ⟨(some 25), (.bin .eql (.tmp 22) (.tmp 24)), (some (16, true)), [17, 19, 11]⟩,
 ⟨(some 26), (.pick (.tmp 16) (.tmp 25) (.const (.bool false))), none, [11, 20]⟩]
@[go_sem ↓] theorem op57_5_run {K : AExit → Fr → Store → Prop} {fr : Fr} {σ : Store} : wp Try.prog (.reg op57_5 true [0, 3, 4, 26]) K fr σ = wpOpsD Try.prog (Kreg [0, 3, 4, 26] K) op57_5 (Fr.get fr) σ := wp_draw (by kernel_rfl)
def ac57 : ACode :=
 (.seq
 (.reg [
 ⟨(some 3), (.box (.tmp 1)), none, []⟩,
 ⟨(some 4), (.alloc [(.sc (.int .i64 0)), (.sc (.int .i64 0))]), none, []⟩] false [0, 3, 4])
 (.seq
 (.block 0
 (.loop
 (.seq
 (.seq
 (.reg op57_5 true [0, 3, 4, 26])
 (.cond (.tmp 26)
 .skip
 (.exit 0)))
 (.block 1
 (.reg [
 ⟨(some 27), (.indexAddrA 2 1 (.tmp 3) (.const (.int .i64 1))), none, []⟩,
 ⟨(some 28), (.load false 1 (.tmp 27)), none, []⟩,
 ⟨(some 29), (.bin .add (.tmp 28) (.const (.int .i64 1))), none, []⟩,
 ⟨(some 30), (.indexAddrA 2 1 (.tmp 3) (.const (.int .i64 1))), none, []⟩,
 ⟨none, (.store 1 (.tmp 30) (.tmp 29)), none, []⟩] false [0, 3, 4])))))
 (.seq
 (.reg [
 ⟨(some 31), (.load true 2 (.tmp 3)), none, []⟩,
 ⟨none, (.store 2 (.tmp 4) (.tmp 31)), none, []⟩] false [4])
 .ret)))
-- simp set: ac57, op57_5
theorem isF57 : IsFunc Try.prog 57 2 ac57 [.cell 4 true 2] := isFunc_of _ [(0, [0, 3, 4]), (1, [0, 3, 4, 26]), (2, [0, 3, 4]), (3, [4])] Try.func57 (by kernel_rfl)
/-- waymark/waymarkref1.Next; loop heads: [[1, 2, 3, 4, 11, 12, 13]] -/
def op58_54 : List AOper := [
 ⟨(some 54), (.load true 2 (.tmp 4)), none, []⟩,
 ⟨(some 55), (.move (.tmp 12)), none, []⟩,
 ⟨(some 56), (.move (.tmp 13)), none, []⟩,
 ⟨(some 57), (.indexAddrS 1 (.tmp 55) (.tmp 56)), none, [1, 2]⟩,
 ⟨(some 58), (.load false 1 (.tmp 57)), none, [3]⟩,
 ⟨(some 59), (.callF 16 [(.tmp 54), (.tmp 58)]), none, [0, 4]⟩,
 ⟨(some 53), (.move (.tmp 59)), none, [5]⟩,
 ⟨(some 60), (.extract (.tmp 53) 0), none, [6]⟩,
 ⟨(some 61), (.extract (.tmp 53) 1), none, [6]⟩,
 ⟨(some 62), (.extract (.tmp 53) 2), none, [6]⟩,
 ⟨(some 14), (.move (.tmp 60)), none, [7, 5, 0, 1, 2, 3, 4, 5, 6, 7]⟩,
 ⟨(some 15), (.move (.tmp 61)), none, [8, 10, 0, 1, 2, 3, 4, 5, 6, 7, 8, 10]⟩,
 ⟨(some 16), (.move (.tmp 62)), none, [9, 11, 0, 1, 2, 3, 4, 5, 6, 7, 8, 9, 10, 11]⟩]
@[go_sem ↓] theorem op58_54_run {K : AExit → Fr → Store → Prop} {fr : Fr} {σ : Store} : wp Try.prog (.reg op58_54 true [1, 2, 3, 4, 11, 12, 13, 15]) K fr σ = wpOpsD Try.prog (Kreg [1, 2, 3, 4, 11, 12, 13, 15] K) op58_54 (Fr.get fr) σ := wp_draw (by kernel_rfl)
def op58_63 : List AOper := [
 ⟨(some 63), (.move (.tmp 1)), none, []⟩,
 ⟨(some 64), (.move (.tmp 12)), none, []⟩,
 ⟨(some 65), (.move (.tmp 13)), none, []⟩,
 ⟨(some 66), (.indexAddrS 1 (.tmp 64) (.tmp 65)), none, [1, 2]⟩,
 ⟨(some 67), (.load false 1 (.tmp 66)), none, [3]⟩,
 ⟨(some 68), (.bin .quo (.tmp 67) (.const (.int .i64 2))), none, [4]⟩,
 ⟨(some 69), (.callF 17 [(.tmp 63), (.tmp 68)]), none, [0, 5]⟩,
 ⟨(some 70), (.un .not (.tmp 69)), none, [6]⟩,
 ⟨(some 71), (.move (.tmp 70)), none, [7, 6]⟩,
 ⟨(some 72), (.move (.tmp 2)), (some (71, true)), [8]⟩,
 ⟨(some 73), (.move (.tmp 15)), (some (71, true)), [8]⟩,
 ⟨(some 74), (.indexAddrS 1 (.tmp 72) (.tmp 73)), (some (71, true)), [9, 10, 8]⟩,
 ⟨(some 75), (.load false 1 (.tmp 74)), (some (71, true)), [11, 8]⟩,
 ⟨(some 76), (.bin .geq (.tmp 75) (.const (.int .i64 0))), (some (71, true)), [12, 8]⟩,
 ⟨(some 77), (.pick (.tmp 71) (.tmp 76) (.const (.bool false))), none, [8, 13]⟩,
 ⟨(some 78), (.move (.tmp 77)), none, [14, 8]⟩,
 ⟨(some 79), (.move (.tmp 2)), (some (78, true)), [15]⟩,
 ⟨(some 80), (.move (.tmp 3)), (some (78, true)), [15]⟩,
 ⟨(some 81), (.indexAddrS 1 (.tmp 79) (.tmp 80)), (some (78, true)), [16, 17, 15]⟩,
 ⟨(some 82), (.load false 1 (.tmp 81)), (some (78, true)), [18, 15]⟩,
 ⟨(some 83), (.move (.tmp 2)), (some (78, true)), [15]⟩,
 ⟨(some 84), (.move (.tmp 15)), (some (78, true)), [15]⟩,
 ⟨(some 85), (.indexAddrS 1 (.tmp 83) (.tmp 84)), (some (78, true)), [20, 21, 15]⟩,
 ⟨(some 86), (.load false 1 (.tmp 85)), (some (78, true)), [22, 15]⟩,
 ⟨(some 87), (.bin .sub (.tmp 82) (.tmp 86)), (some (78, true)), [19, 23, 15]⟩,
 ⟨(some 88), (.fieldAddr 1 (.tmp 4)), (some (78, true)), [15]⟩,
 ⟨(some 89), (.load false 1 (.tmp 88)), (some (78, true)), [25, 15]⟩,
 ⟨(some 90), (.move (.tmp 12)), (some (78, true)), [15]⟩,
 ⟨(some 91), (.move (.tmp 13)), (some (78, true)), [15]⟩,
 ⟨(some 92), (.indexAddrS 1 (.tmp 90) (.tmp 91)), (some (78, true)), [27, 28, 15]⟩,
 ⟨(some 93), (.load false 1 (.tmp 92)), (some (78, true)), [29, 15]⟩,
 ⟨(some 94), (.bin .quo (.tmp 93) (.const (.int .i64 2))), (some (78, true)), [30, 15]⟩,
 ⟨(some 95), (.indexAddrS 4 (.tmp 89) (.tmp 94)), (some (78, true)), [26, 31, 15]⟩,
 ⟨(some 96), (.fieldAddr 2 (.tmp 95)), (some (78, true)), [32, 15]⟩,
 ⟨(some 97), (.load false 1 (.tmp 96)), (some (78, true)), [33, 15]⟩,
 ⟨(some 98), (.bin .eql (.tmp 87) (.tmp 97)), (some (78, true)), [24, 34, 15]⟩,
 ⟨(some 99), (.pick (.tmp 78) (.tmp 98) (.const (.bool false))), none, [15, 35]⟩]
@[go_sem ↓] theorem op58_63_run {K : AExit → Fr → Store → Prop} {fr : Fr} {σ : Store} : wp Try.prog (.reg op58_63 true [1, 2, 3, 4, 11, 12, 13, 99]) K fr σ = wpOpsD Try.prog (Kreg [1, 2, 3, 4, 11, 12, 13, 99] K) op58_63 (Fr.get fr) σ := wp_draw (by kernel_rfl)
def ac58 : ACode :=
 (.seq
 (.reg [
 ⟨(some 4), (.box (.tmp 0)), none, []⟩,
 ⟨(some 8), (.move (.const (.slice none 0 0))), none, []⟩] false [1, 2, 3, 4])
 (.seq
 (.reg [
 ⟨(some 18), (.load true 2 (.tmp 4)), none, []⟩,
 ⟨(some 19), (.callF 39 [(.tmp 18)]), none, []⟩,
 ⟨(some 17), (.move (.tmp 19)), none, []⟩,
 ⟨(some 20), (.extract (.tmp 17) 0), none, []⟩,
 ⟨(some 21), (.extract (.tmp 17) 1), none, []⟩,
 ⟨(some 9), (.move (.tmp 20)), none, []⟩,
 ⟨(some 10), (.move (.tmp 21)), none, []⟩] false [1, 2, 3, 4, 10])
 (.seq
 (.seq
 (.reg [
 ⟨(some 22), (.move (.tmp 10)), none, []⟩,
 ⟨(some 23), (.bin .neq (.tmp 22) (.const (.int .i64 0))), none, []⟩,
 ⟨(some 24), (.move (.tmp 23)), none, []⟩,
 ⟨(some 25), (.move (.tmp 2)), (some (24, false)), []⟩,
 ⟨(some 26), (.lenS (.tmp 25)), (some (24, false)), []⟩,
 ⟨(some 27), (.fieldAddr 0 (.tmp 4)), (some (24, false)), []⟩,
 ⟨(some 28), (.load false 1 (.tmp 27)), (some (24, false)), []⟩,
 ⟨(some 29), (.bin .neq (.tmp 26) (.tmp 28)), (some (24, false)), []⟩,
 ⟨(some 30), (.pick (.tmp 24) (.const (.bool true)) (.tmp 29)), none, []⟩,
 ⟨(some 31), (.move (.tmp 30)), none, []⟩,
 ⟨(some 32), (.load true 2 (.tmp 4)), (some (31, false)), []⟩,
 ⟨(some 33), (.move (.tmp 3)), (some (31, false)), []⟩,
 ⟨(some 34), (.callF 64 [(.tmp 32), (.tmp 33)]), (some (31, false)), []⟩,
 ⟨(some 35), (.un .not (.tmp 34)), (some (31, false)), []⟩,
 ⟨(some 36), (.pick (.tmp 31) (.const (.bool true)) (.tmp 35)), none, []⟩,
 ⟨(some 37), (.move (.tmp 36)), none, []⟩,
 ⟨(some 38), (.move (.tmp 2)), (some (37, false)), []⟩,
 ⟨(some 39), (.move (.tmp 3)), (some (37, false)), []⟩,
 ⟨(some 40), (.indexAddrS 1 (.tmp 38) (.tmp 39)), (some (37, false)), []⟩,
 ⟨(some 41), (.load false 1 (.tmp 40)), (some (37, false)), []⟩,
 ⟨(some 42), (.bin .leq (.tmp 41) (.const (.int .i64 0))), (some (37, false)), []⟩,
 ⟨(some 43), (.pick (.tmp 37) (.const (.bool true)) (.tmp 42)), none, []⟩] false [1, 2, 3, 4, 43])
 (.cond (.tmp 43)
 (.seq
 (.reg [
 ⟨(some 8), (.move (.const (.slice none 0 0))), none, []⟩] false [8])
 .ret)
 .skip))
 (.seq
 (.reg [
 ⟨(some 11), (.move (.const (.slice none 0 0))), none, []⟩] false [1, 2, 3, 4, 11])
 (.seq
 (.reg [
 ⟨(some 44), (.load true 2 (.tmp 4)), none, []⟩,
 ⟨(some 45), (.move (.tmp 3)), none, []⟩,
 ⟨(some 46), (.callF 76 [(.tmp 44), (.tmp 45)]), none, []⟩,
 ⟨(some 12), (.move (.tmp 46)), none, []⟩] false [1, 2, 3, 4, 11, 12])
 (.seq
 (.seq
 (.reg [
 ⟨(some 13), (.move (.const (.int .i64 0))), none, []⟩] false [1, 2, 3, 4, 11, 12, 13])
 (.block 0
 (.loop
 (.seq
 (.seq
 (.reg [
 ⟨(some 47), (.move (.tmp 13)), none, []⟩,
 ⟨(some 48), (.move (.tmp 12)), none, []⟩,
 ⟨(some 49), (.lenS (.tmp 48)), none, []⟩,
 ⟨(some 50), (.bin .lss (.tmp 47) (.tmp 49)), none, []⟩] false [1, 2, 3, 4, 11, 12, 13, 50])
 (.cond (.tmp 50)
 .skip
 (.exit 0)))
 (.seq
 (.block 1
 (.seq
 (.reg op58_54 true [1, 2, 3, 4, 11, 12, 13, 15])
 (.seq
 (.reg op58_63 true [1, 2, 3, 4, 11, 12, 13, 99])
 (.cond (.tmp 99)
 (.reg [
 ⟨(some 100), (.move (.tmp 11)), none, []⟩,
 ⟨(some 101), (.move (.tmp 12)), none, []⟩,
 ⟨(some 102), (.move (.tmp 13)), none, []⟩,
 ⟨(some 103), (.indexAddrS 1 (.tmp 101) (.tmp 102)), none, []⟩,
 ⟨(some 104), (.load false 1 (.tmp 103)), none, []⟩,
 ⟨(some 105), (.buildSlice 1 1 [(.sc (.int .i64 0))] [(0, (.tmp 104))]), none, []⟩,
 ⟨(some 106), (.append 1 8 [(.sc (.int .i64 0))] (.tmp 100) (.tmp 105)), none, []⟩,
 ⟨(some 11), (.move (.tmp 106)), none, []⟩] false [1, 2, 3, 4, 11, 12, 13])
 .skip))))
 (.reg [
 ⟨(some 51), (.move (.tmp 13)), none, []⟩,
 ⟨(some 52), (.bin .add (.tmp 51) (.const (.int .i64 1))), none, []⟩,
 ⟨(some 13), (.move (.tmp 52)), none, []⟩] false [1, 2, 3, 4, 11, 12, 13]))))))
 (.seq
 (.reg [
 ⟨(some 107), (.move (.tmp 11)), none, []⟩,
 ⟨(some 8), (.move (.tmp 107)), none, []⟩] false [8])
 .ret)))))))
-- simp set: ac58, op58_54, op58_63
theorem isF58 : IsFunc Try.prog 58 4 ac58 [.tmp 8] := isFunc_of _ [(0, [1, 2, 3, 4]), (1, [1, 2, 3, 4, 10]), (2, [1, 2, 3, 4, 43]), (3, [8]), (4, [1, 2, 3, 4, 11]), (5, [1, 2, 3, 4, 11, 12]), (6, [1, 2, 3, 4, 11, 12, 13]), (7, [1, 2, 3, 4, 11, 12, 13, 50]), (9, [1, 2, 3, 4, 11, 12, 13, 15]), (10, [1, 2, 3, 4, 11, 12, 13, 99]), (11, [1, 2, 3, 4, 11, 12, 13]), (8, [1, 2, 3, 4, 11, 12, 13]), (12, [8])] Try.func58 (by kernel_rfl)
/-- waymark/graph.link; loop heads: [] -/
def ac59 : ACode :=
 (.seq
 (.reg [
 ⟨(some 2), (.box (.tmp 0)), none, []⟩,
 ⟨(some 3), (.box (.tmp 1)), none, []⟩,
 ⟨(some 4), (.move (.const (.int .i64 0))), none, []⟩] false [2, 3])
 (.seq
 (.block 0
 (.seq
 (.reg [
 ⟨(some 6), (.load true 2 (.tmp 2)), none, []⟩,
 ⟨(some 7), (.fieldAddr 0 (.tmp 3)), none, []⟩,
 ⟨(some 8), (.load false 1 (.tmp 7)), none, []⟩,
 ⟨(some 9), (.callF 28 [(.tmp 6), (.tmp 8)]), none, []⟩,
 ⟨(some 10), (.un .not (.tmp 9)), none, []⟩,
 ⟨(some 11), (.move (.tmp 10)), none, []⟩,
 ⟨(some 12), (.load true 2 (.tmp 2)), (some (11, false)), []⟩,
 ⟨(some 13), (.fieldAddr 1 (.tmp 3)), (some (11, false)), []⟩,
 ⟨(some 14), (.load false 1 (.tmp 13)), (some (11, false)), []⟩,
 ⟨(some 15), (.callF 28 [(.tmp 12), (.tmp 14)]), (some (11, false)), []⟩,
 ⟨(some 16), (.un .not (.tmp 15)), (some (11, false)), []⟩,
 ⟨(some 17), (.pick (.tmp 11) (.const (.bool true)) (.tmp 16)), none, []⟩,
 ⟨(some 18), (.move (.tmp 17)), none, []⟩,
 ⟨(some 19), (.fieldAddr 0 (.tmp 3)), (some (18, false)), []⟩,
 ⟨(some 20), (.load false 1 (.tmp 19)), (some (18, false)), []⟩,
 ⟨(some 21), (.fieldAddr 1 (.tmp 3)), (some (18, false)), []⟩,
 ⟨(some 22), (.load false 1 (.tmp 21)), (some (18, false)), []⟩,
 ⟨(some 23), (.bin .eql (.tmp 20) (.tmp 22)), (some (18, false)), []⟩,
 ⟨(some 24), (.pick (.tmp 18) (.const (.bool true)) (.tmp 23)), none, []⟩,
 ⟨(some 5), (.move (.tmp 24)), none, []⟩] false [3, 5])
 (.cond (.tmp 5)
 (.seq
 (.reg [
 ⟨(some 4), (.move (.const (.int .i64 4))), none, []⟩] false [4])
 .ret)
 (.seq
 (.reg [
 ⟨(some 26), (.fieldAddr 2 (.tmp 3)), none, []⟩,
 ⟨(some 27), (.load false 1 (.tmp 26)), none, []⟩,
 ⟨(some 28), (.bin .lss (.tmp 27) (.const (.int .i64 1))), none, []⟩,
 ⟨(some 29), (.move (.tmp 28)), none, []⟩,
 ⟨(some 30), (.fieldAddr 2 (.tmp 3)), (some (29, false)), []⟩,
 ⟨(some 31), (.load false 1 (.tmp 30)), (some (29, false)), []⟩,
 ⟨(some 32), (.bin .gtr (.tmp 31) (.const (.int .i64 16777216))), (some (29, false)), []⟩,
 ⟨(some 33), (.pick (.tmp 29) (.const (.bool true)) (.tmp 32)), none, []⟩,
 ⟨(some 34), (.move (.tmp 33)), none, []⟩,
 ⟨(some 35), (.fieldAddr 3 (.tmp 3)), (some (34, false)), []⟩,
 ⟨(some 36), (.load false 1 (.tmp 35)), (some (34, false)), []⟩,
 ⟨(some 37), (.bin .lss (.tmp 36) (.const (.int .i64 0))), (some (34, false)), []⟩,
 ⟨(some 38), (.pick (.tmp 34) (.const (.bool true)) (.tmp 37)), none, []⟩,
 ⟨(some 39), (.move (.tmp 38)), none, []⟩,
 ⟨(some 40), (.fieldAddr 3 (.tmp 3)), (some (39, false)), []⟩,
 ⟨(some 41), (.load false 1 (.tmp 40)), (some (39, false)), []⟩,
 ⟨(some 42), (.bin .gtr (.tmp 41) (.const (.int .i64 62))), (some (39, false)), []⟩,
 ⟨(some 43), (.pick (.tmp 39) (.const (.bool true)) (.tmp 42)), none, []⟩,
 ⟨(some 25), (.move (.tmp 43)), none, []⟩] false [25])
 (.cond (.tmp 25)
 (.seq
 (.reg [
 ⟨(some 4), (.move (.const (.int .i64 1))), none, []⟩] false [4])
 .ret)
 .skip)))))
 (.seq
 (.reg [
 ⟨(some 4), (.move (.const (.int .i64 0))), none, []⟩] false [4])
 .ret)))
-- simp set: ac59
theorem isF59 : IsFunc Try.prog 59 2 ac59 [.tmp 4] := isFunc_of _ [(0, [2, 3]), (1, [3, 5]), (2, [4]), (3, [25]), (4, [4]), (5, [4])] Try.func59 (by kernel_rfl)
/-- waymark/spf.From; loop heads: [[1, 2, 3, 7, 31, 32], [1, 3, 7, 9], [1, 3, 7, 9, 10, 64, 65, 66]] -/
def ac60 : ACode :=
 (.seq
 (.reg [
 ⟨(some 3), (.box (.tmp 0)), none, []⟩,
 ⟨(some 6), (.move (.const (.slice none 0 0))), none, []⟩] false [1, 2, 3])
 (.seq
 (.seq
 (.reg [
 ⟨(some 18), (.load true 2 (.tmp 3)), none, []⟩,
 ⟨(some 19), (.callF 61 [(.tmp 18)]), none, []⟩,
 ⟨(some 20), (.un .not (.tmp 19)), none, []⟩,
 ⟨(some 21), (.move (.tmp 20)), none, []⟩,
 ⟨(some 22), (.load true 2 (.tmp 3)), (some (21, false)), []⟩,
 ⟨(some 23), (.move (.tmp 2)), (some (21, false)), []⟩,
 ⟨(some 24), (.callF 28 [(.tmp 22), (.tmp 23)]), (some (21, false)), []⟩,
 ⟨(some 25), (.un .not (.tmp 24)), (some (21, false)), []⟩,
 ⟨(some 26), (.pick (.tmp 21) (.const (.bool true)) (.tmp 25)), none, []⟩] false [1, 2, 3, 26])
 (.cond (.tmp 26)
 (.seq
 (.reg [
 ⟨(some 6), (.move (.const (.slice none 0 0))), none, []⟩] false [6])
 .ret)
 .skip))
 (.seq
 (.reg [
 ⟨(some 27), (.fieldAddr 0 (.tmp 3)), none, []⟩,
 ⟨(some 28), (.load false 1 (.tmp 27)), none, []⟩,
 ⟨(some 29), (.makeSlice 1 8 [(.sc (.int .i64 0))] (.tmp 28) (.tmp 28)), none, []⟩,
 ⟨(some 7), (.move (.tmp 29)), none, []⟩] false [1, 2, 3, 7])
 (.seq
 (.seq
 (.reg [
 ⟨(some 30), (.move (.tmp 7)), none, []⟩,
 ⟨(some 31), (.lenS (.tmp 30)), none, []⟩,
 ⟨(some 32), (.move (.const (.int .i64 0))), none, []⟩] false [1, 2, 3, 7, 31, 32])
 (.block 0
 (.loop
 (.seq
 (.reg [
 ⟨(some 33), (.bin .lss (.tmp 32) (.tmp 31)), none, []⟩] false [1, 2, 3, 7, 31, 32, 33])
 (.seq
 (.cond (.tmp 33)
 .skip
 (.exit 0))
 (.seq
 (.block 1
 (.seq
 (.reg [
 ⟨(some 34), (.move (.tmp 32)), none, []⟩,
 ⟨(some 8), (.move (.tmp 34)), none, []⟩] false [1, 2, 3, 7, 8, 31, 32])
 (.reg [
 ⟨(some 35), (.move (.tmp 7)), none, []⟩,
 ⟨(some 36), (.move (.tmp 8)), none, []⟩,
 ⟨(some 37), (.indexAddrS 1 (.tmp 35) (.tmp 36)), none, []⟩,
 ⟨none, (.store 1 (.tmp 37) (.const (.int .i64 (-1)))), none, []⟩] false [1, 2, 3, 7, 31, 32])))
 (.reg [
 ⟨(some 38), (.bin .add (.tmp 32) (.const (.int .i64 1))), none, []⟩,
 ⟨(some 32), (.move (.tmp 38)), none, []⟩] false [1, 2, 3, 7, 31, 32])))))))
 (.seq
 (.reg [
 ⟨(some 39), (.build [.nils] []), none, []⟩,
 ⟨(some 40), (.box (.tmp 39)), none, []⟩,
 ⟨(some 9), (.move (.tmp 40)), none, []⟩] false [1, 2, 3, 7, 9])
 (.seq
 (.reg [
 ⟨(some 41), (.move (.tmp 9)), none, []⟩,
 ⟨(some 42), (.move (.tmp 2)), none, []⟩,
 ⟨(some 43), (.callF 77 [(.tmp 41), (.const (.int .i64 0)), (.tmp 42)]), none, []⟩] false [1, 3, 7, 9])
 (.block 2
 (.loop
 (.block 3
 (.seq
 (.reg [
 ⟨(some 45), (.move (.tmp 9)), none, []⟩,
 ⟨(some 46), (.callF 78 [(.tmp 45)]), none, []⟩,
 ⟨(some 44), (.move (.tmp 46)), none, []⟩,
 ⟨(some 47), (.extract (.tmp 44) 0), none, []⟩,
 ⟨(some 48), (.extract (.tmp 44) 1), none, []⟩,
 ⟨(some 49), (.extract (.tmp 44) 2), none, []⟩,
 ⟨(some 10), (.move (.tmp 47)), none, []⟩,
 ⟨(some 11), (.move (.tmp 48)), none, []⟩,
 ⟨(some 12), (.move (.tmp 49)), none, []⟩] false [1, 3, 7, 9, 10, 11, 12])
 (.seq
 (.seq
 (.reg [
 ⟨(some 50), (.move (.tmp 12)), none, []⟩,
 ⟨(some 51), (.un .not (.tmp 50)), none, []⟩] false [1, 3, 7, 9, 10, 11, 51])
 (.cond (.tmp 51)
 (.seq
 (.reg [
 ⟨(some 52), (.move (.tmp 7)), none, []⟩,
 ⟨(some 6), (.move (.tmp 52)), none, []⟩] false [6])
 .ret)
 .skip))
 (.seq
 (.seq
 (.reg [
 ⟨(some 53), (.move (.tmp 7)), none, []⟩,
 ⟨(some 54), (.move (.tmp 11)), none, []⟩,
 ⟨(some 55), (.indexAddrS 1 (.tmp 53) (.tmp 54)), none, []⟩,
 ⟨(some 56), (.load false 1 (.tmp 55)), none, []⟩,
 ⟨(some 57), (.bin .neq (.tmp 56) (.const (.int .i64 (-1)))), none, []⟩] false [1, 3, 7, 9, 10, 11, 57])
 (.cond (.tmp 57)
 (.exit 3)
 .skip))
 (.seq
 (.reg [
 ⟨(some 58), (.move (.tmp 7)), none, []⟩,
 ⟨(some 59), (.move (.tmp 11)), none, []⟩,
 ⟨(some 60), (.move (.tmp 10)), none, []⟩,
 ⟨(some 61), (.indexAddrS 1 (.tmp 58) (.tmp 59)), none, []⟩,
 ⟨none, (.store 1 (.tmp 61) (.tmp 60)), none, []⟩] false [1, 3, 7, 9, 10, 11])
 (.seq
 (.reg [
 ⟨(some 62), (.load true 2 (.tmp 3)), none, []⟩,
 ⟨(some 63), (.move (.tmp 11)), none, []⟩,
 ⟨(some 64), (.callF 62 [(.tmp 62), (.tmp 63)]), none, []⟩,
 ⟨(some 65), (.lenS (.tmp 64)), none, []⟩,
 ⟨(some 66), (.move (.const (.int .i64 0))), none, []⟩] false [1, 3, 7, 9, 10, 64, 65, 66])
 (.block 4
 (.loop
 (.seq
 (.reg [
 ⟨(some 67), (.bin .lss (.tmp 66) (.tmp 65)), none, []⟩] false [1, 3, 7, 9, 10, 64, 65, 66, 67])
 (.seq
 (.cond (.tmp 67)
 .skip
 (.exit 4))
 (.seq
 (.block 5
 (.seq
 (.reg [
 ⟨(some 68), (.indexAddrS 1 (.tmp 64) (.tmp 66)), none, []⟩,
 ⟨(some 69), (.load false 1 (.tmp 68)), none, []⟩,
 ⟨(some 14), (.move (.tmp 69)), none, []⟩] false [1, 3, 7, 9, 10, 14, 64, 65, 66])
 (.seq
 (.reg [
 ⟨(some 71), (.load true 2 (.tmp 3)), none, []⟩,
 ⟨(some 72), (.move (.tmp 14)), none, []⟩,
 ⟨(some 73), (.callF 63 [(.tmp 71), (.tmp 72)]), none, []⟩,
 ⟨(some 70), (.move (.tmp 73)), none, []⟩,
 ⟨(some 74), (.extract (.tmp 70) 0), none, []⟩,
 ⟨(some 75), (.extract (.tmp 70) 1), none, []⟩,
 ⟨(some 76), (.extract (.tmp 70) 2), none, []⟩,
 ⟨(some 15), (.move (.tmp 74)), none, []⟩,
 ⟨(some 16), (.move (.tmp 75)), none, []⟩,
 ⟨(some 17), (.move (.tmp 76)), none, []⟩] false [1, 3, 7, 9, 10, 14, 16, 64, 65, 66])
 (.seq
 (.reg [
 ⟨(some 77), (.move (.tmp 1)), none, []⟩,
 ⟨(some 78), (.move (.tmp 14)), none, []⟩,
 ⟨(some 79), (.callF 51 [(.tmp 77), (.tmp 78)]), none, []⟩,
 ⟨(some 80), (.move (.tmp 79)), none, []⟩,
 ⟨(some 81), (.move (.tmp 7)), (some (80, true)), []⟩,
 ⟨(some 82), (.move (.tmp 16)), (some (80, true)), []⟩,
 ⟨(some 83), (.indexAddrS 1 (.tmp 81) (.tmp 82)), (some (80, true)), []⟩,
 ⟨(some 84), (.load false 1 (.tmp 83)), (some (80, true)), []⟩,
 ⟨(some 85), (.bin .eql (.tmp 84) (.const (.int .i64 (-1)))), (some (80, true)), []⟩,
 ⟨(some 86), (.pick (.tmp 80) (.tmp 85) (.const (.bool false))), none, []⟩] false [1, 3, 7, 9, 10, 14, 16, 64, 65, 66, 86])
 (.cond (.tmp 86)
 (.reg [
 ⟨(some 87), (.move (.tmp 9)), none, []⟩,
 ⟨(some 88), (.move (.tmp 10)), none, []⟩,
 ⟨(some 89), (.fieldAddr 1 (.tmp 3)), none, []⟩,
 ⟨(some 90), (.load false 1 (.tmp 89)), none, []⟩,
 ⟨(some 91), (.move (.tmp 14)), none, []⟩,
 ⟨(some 92), (.bin .quo (.tmp 91) (.const (.int .i64 2))), none, []⟩,
 ⟨(some 93), (.indexAddrS 4 (.tmp 90) (.tmp 92)), none, []⟩,
 ⟨(some 94), (.fieldAddr 2 (.tmp 93)), none, []⟩,
 ⟨(some 95), (.load false 1 (.tmp 94)), none, []⟩,
 ⟨(some 96), (.bin .add (.tmp 88) (.tmp 95)), none, []⟩,
 ⟨(some 97), (.move (.tmp 16)), none, []⟩,
 ⟨(some 98), (.callF 77 [(.tmp 87), (.tmp 96), (.tmp 97)]), none, []⟩] false [1, 3, 7, 9, 10, 64, 65, 66])
 .skip)))))
 (.reg [
 ⟨(some 99), (.bin .add (.tmp 66) (.const (.int .i64 1))), none, []⟩,
 ⟨(some 66), (.move (.tmp 99)), none, []⟩] false [1, 3, 7, 9, 10, 64, 65, 66]))))))))))))))))))))
-- simp set: ac60
theorem isF60 : IsFunc Try.prog 60 3 ac60 [.tmp 6] := isFunc_of _ [(0, [1, 2, 3]), (1, [1, 2, 3, 26]), (2, [6]), (3, [1, 2, 3, 7]), (4, [1, 2, 3, 7, 31, 32]), (5, [1, 2, 3, 7, 31, 32, 33]), (6, [1, 2, 3, 7, 8, 31, 32]), (7, [1, 2, 3, 7, 31, 32]), (8, [1, 2, 3, 7, 31, 32]), (9, [1, 2, 3, 7, 9]), (10, [1, 3, 7, 9]), (11, [1, 3, 7, 9, 10, 11, 12]), (12, [1, 3, 7, 9, 10, 11, 51]), (13, [6]), (14, [1, 3, 7, 9, 10, 11, 57]), (15, [1, 3, 7, 9, 10, 11]), (16, [1, 3, 7, 9, 10, 64, 65, 66]), (17, [1, 3, 7, 9, 10, 64, 65, 66, 67]), (18, [1, 3, 7, 9, 10, 14, 64, 65, 66]), (19, [1, 3, 7, 9, 10, 14, 16, 64, 65, 66]), (20, [1, 3, 7, 9, 10, 14, 16, 64, 65, 66, 86]), (21, [1, 3, 7, 9, 10, 64, 65, 66]), (22, [1, 3, 7, 9, 10, 64, 65, 66])] Try.func60 (by kernel_rfl)
/-- waymark/graph.Right; loop heads: [] -/
def ac61 : ACode :=
 (.seq
 (.reg [
 ⟨(some 1), (.box (.tmp 0)), none, []⟩,
 ⟨(some 2), (.move (.const (.bool false))), none, []⟩] false [1])
 (.seq
 (.reg [
 ⟨(some 6), (.load true 2 (.tmp 1)), none, []⟩,
 ⟨(some 7), (.callF 35 [(.tmp 6)]), none, []⟩,
 ⟨(some 5), (.move (.tmp 7)), none, []⟩,
 ⟨(some 8), (.extract (.tmp 5) 0), none, []⟩,
 ⟨(some 9), (.extract (.tmp 5) 1), none, []⟩,
 ⟨(some 3), (.move (.tmp 8)), none, []⟩,
 ⟨(some 4), (.move (.tmp 9)), none, []⟩] false [4])
 (.seq
 (.reg [
 ⟨(some 10), (.move (.tmp 4)), none, []⟩,
 ⟨(some 11), (.bin .eql (.tmp 10) (.const (.int .i64 0))), none, []⟩,
 ⟨(some 2), (.move (.tmp 11)), none, []⟩] false [2])
 .ret)))
-- simp set: ac61
theorem isF61 : IsFunc Try.prog 61 1 ac61 [.tmp 2] := isFunc_of _ [(0, [1]), (1, [4]), (2, [2])] Try.func61 (by kernel_rfl)
/-- waymark/graph.Out; loop heads: [[1, 2, 5, 13, 14]] -/
def ac62 : ACode :=
 (.seq
 (.reg [
 ⟨(some 2), (.box (.tmp 0)), none, []⟩,
 ⟨(some 4), (.move (.const (.slice none 0 0))), none, []⟩] false [1, 2])
 (.seq
 (.reg [
 ⟨(some 5), (.move (.const (.slice none 0 0))), none, []⟩] false [1, 2, 5])
 (.seq
 (.seq
 (.reg [
 ⟨(some 10), (.fieldAddr 1 (.tmp 2)), none, []⟩,
 ⟨(some 11), (.load false 1 (.tmp 10)), none, []⟩,
 ⟨(some 12), (.lenS (.tmp 11)), none, []⟩,
 ⟨(some 13), (.bin .mul (.const (.int .i64 2)) (.tmp 12)), none, []⟩,
 ⟨(some 14), (.move (.const (.int .i64 0))), none, []⟩] false [1, 2, 5, 13, 14])
 (.block 0
 (.loop
 (.seq
 (.reg [
 ⟨(some 15), (.bin .lss (.tmp 14) (.tmp 13)), none, []⟩] false [1, 2, 5, 13, 14, 15])
 (.seq
 (.cond (.tmp 15)
 .skip
 (.exit 0))
 (.seq
 (.block 1
 (.seq
 (.reg [
 ⟨(some 16), (.move (.tmp 14)), none, []⟩,
 ⟨(some 6), (.move (.tmp 16)), none, []⟩] false [1, 2, 5, 6, 13, 14])
 (.seq
 (.reg [
 ⟨(some 18), (.load true 2 (.tmp 2)), none, []⟩,
 ⟨(some 19), (.move (.tmp 6)), none, []⟩,
 ⟨(some 20), (.callF 63 [(.tmp 18), (.tmp 19)]), none, []⟩,
 ⟨(some 17), (.move (.tmp 20)), none, []⟩,
 ⟨(some 21), (.extract (.tmp 17) 0), none, []⟩,
 ⟨(some 22), (.extract (.tmp 17) 1), none, []⟩,
 ⟨(some 23), (.extract (.tmp 17) 2), none, []⟩,
 ⟨(some 7), (.move (.tmp 21)), none, []⟩,
 ⟨(some 8), (.move (.tmp 22)), none, []⟩,
 ⟨(some 9), (.move (.tmp 23)), none, []⟩] false [1, 2, 5, 6, 7, 13, 14])
 (.seq
 (.reg [
 ⟨(some 24), (.move (.tmp 7)), none, []⟩,
 ⟨(some 25), (.move (.tmp 1)), none, []⟩,
 ⟨(some 26), (.bin .eql (.tmp 24) (.tmp 25)), none, []⟩] false [1, 2, 5, 6, 13, 14, 26])
 (.cond (.tmp 26)
 (.reg [
 ⟨(some 27), (.move (.tmp 5)), none, []⟩,
 ⟨(some 28), (.move (.tmp 6)), none, []⟩,
 ⟨(some 29), (.buildSlice 1 1 [(.sc (.int .i64 0))] [(0, (.tmp 28))]), none, []⟩,
 ⟨(some 30), (.append 1 8 [(.sc (.int .i64 0))] (.tmp 27) (.tmp 29)), none, []⟩,
 ⟨(some 5), (.move (.tmp 30)), none, []⟩] false [1, 2, 5, 13, 14])
 .skip)))))
 (.reg [
 ⟨(some 31), (.bin .add (.tmp 14) (.const (.int .i64 1))), none, []⟩,
 ⟨(some 14), (.move (.tmp 31)), none, []⟩] false [1, 2, 5, 13, 14])))))))
 (.seq
 (.reg [
 ⟨(some 32), (.move (.tmp 5)), none, []⟩,
 ⟨(some 4), (.move (.tmp 32)), none, []⟩] false [4])
 .ret))))
-- simp set: ac62
theorem isF62 : IsFunc Try.prog 62 2 ac62 [.tmp 4] := isFunc_of _ [(0, [1, 2]), (1, [1, 2, 5]), (2, [1, 2, 5, 13, 14]), (3, [1, 2, 5, 13, 14, 15]), (4, [1, 2, 5, 6, 13, 14]), (5, [1, 2, 5, 6, 7, 13, 14]), (6, [1, 2, 5, 6, 13, 14, 26]), (7, [1, 2, 5, 13, 14]), (8, [1, 2, 5, 13, 14]), (9, [4])] Try.func62 (by kernel_rfl)
/-- waymark/graph.Ends; loop heads: [] -/
def op63_27 : List AOper := [
 ⟨(some 27), (.fieldAddr 1 (.tmp 7)), none, []⟩,
 ⟨(some 28), (.load false 1 (.tmp 27)), none, [0]⟩,
 ⟨(some 29), (.fieldAddr 0 (.tmp 7)), none, []⟩,
 ⟨(some 30), (.load false 1 (.tmp 29)), none, [2]⟩,
 ⟨(some 4), (.move (.tmp 28)), none, [1, 0, 1]⟩,
 ⟨(some 5), (.move (.tmp 30)), none, [3, 4, 0, 1, 2, 3, 4]⟩,
 ⟨(some 6), (.move (.const (.bool true))), none, [5, 0, 1, 2, 3, 4, 5]⟩]
@[go_sem ↓] theorem op63_27_run {K : AExit → Fr → Store → Prop} {fr : Fr} {σ : Store} : wp Try.prog (.reg op63_27 true [4, 5, 6]) K fr σ = wpOpsD Try.prog (Kreg [4, 5, 6] K) op63_27 (Fr.get fr) σ := wp_draw (by kernel_rfl)
def op63_31 : List AOper := [
 ⟨(some 31), (.fieldAddr 0 (.tmp 7)), none, []⟩,
 ⟨(some 32), (.load false 1 (.tmp 31)), none, [0]⟩,
 ⟨(some 33), (.fieldAddr 1 (.tmp 7)), none, []⟩,
 ⟨(some 34), (.load false 1 (.tmp 33)), none, [2]⟩,
 ⟨(some 4), (.move (.tmp 32)), none, [1, 0, 1]⟩,
 ⟨(some 5), (.move (.tmp 34)), none, [3, 4, 0, 1, 2, 3, 4]⟩,
 ⟨(some 6), (.move (.const (.bool true))), none, [5, 0, 1, 2, 3, 4, 5]⟩]
@[go_sem ↓] theorem op63_31_run {K : AExit → Fr → Store → Prop} {fr : Fr} {σ : Store} : wp Try.prog (.reg op63_31 true [4, 5, 6]) K fr σ = wpOpsD Try.prog (Kreg [4, 5, 6] K) op63_31 (Fr.get fr) σ := wp_draw (by kernel_rfl)
def ac63 : ACode :=
 (.seq
 (.reg [
 ⟨(some 2), (.box (.tmp 0)), none, []⟩,
 ⟨(some 4), (.move (.const (.int .i64 0))), none, []⟩,
 ⟨(some 5), (.move (.const (.int .i64 0))), none, []⟩,
 ⟨(some 6), (.move (.const (.bool false))), none, []⟩] false [1, 2])
 (.seq
 (.seq
 (.reg [
 ⟨(some 8), (.move (.tmp 1)), none, []⟩,
 ⟨(some 9), (.bin .lss (.tmp 8) (.const (.int .i64 0))), none, []⟩,
 ⟨(some 10), (.move (.tmp 9)), none, []⟩,
 ⟨(some 11), (.move (.tmp 1)), (some (10, false)), []⟩,
 ⟨(some 12), (.bin .quo (.tmp 11) (.const (.int .i64 2))), (some (10, false)), []⟩,
 ⟨(some 13), (.fieldAddr 1 (.tmp 2)), (some (10, false)), []⟩,
 ⟨(some 14), (.load false 1 (.tmp 13)), (some (10, false)), []⟩,
 ⟨(some 15), (.lenS (.tmp 14)), (some (10, false)), []⟩,
 ⟨(some 16), (.bin .geq (.tmp 12) (.tmp 15)), (some (10, false)), []⟩,
 ⟨(some 17), (.pick (.tmp 10) (.const (.bool true)) (.tmp 16)), none, []⟩] false [1, 2, 17])
 (.cond (.tmp 17)
 (.seq
 (.reg [
 ⟨(some 4), (.move (.const (.int .i64 0))), none, []⟩,
 ⟨(some 5), (.move (.const (.int .i64 0))), none, []⟩,
 ⟨(some 6), (.move (.const (.bool false))), none, []⟩] false [4, 5, 6])
 .ret)
 .skip))
 (.seq
 (.reg [
 ⟨(some 18), (.fieldAddr 1 (.tmp 2)), none, []⟩,
 ⟨(some 19), (.load false 1 (.tmp 18)), none, []⟩,
 ⟨(some 20), (.move (.tmp 1)), none, []⟩,
 ⟨(some 21), (.bin .quo (.tmp 20) (.const (.int .i64 2))), none, []⟩,
 ⟨(some 22), (.indexAddrS 4 (.tmp 19) (.tmp 21)), none, []⟩,
 ⟨(some 23), (.load true 4 (.tmp 22)), none, []⟩,
 ⟨(some 7), (.alloc [(.sc (.int .i64 0)), (.sc (.int .i64 0)), (.sc (.int .i64 0)), (.sc (.int .i64 0))]), none, []⟩,
 ⟨none, (.store 4 (.tmp 7) (.tmp 23)), none, []⟩] false [1, 7])
 (.seq
 (.seq
 (.reg [
 ⟨(some 24), (.move (.tmp 1)), none, []⟩,
 ⟨(some 25), (.bin .rem (.tmp 24) (.const (.int .i64 2))), none, []⟩,
 ⟨(some 26), (.bin .eql (.tmp 25) (.const (.int .i64 1))), none, []⟩] false [7, 26])
 (.cond (.tmp 26)
 (.seq
 (.reg op63_27 true [4, 5, 6])
 .ret)
 .skip))
 (.seq
 (.reg op63_31 true [4, 5, 6])
 .ret)))))
-- simp set: ac63, op63_27, op63_31
theorem isF63 : IsFunc Try.prog 63 2 ac63 [.tmp 4, .tmp 5, .tmp 6] := isFunc_of _ [(0, [1, 2]), (1, [1, 2, 17]), (2, [4, 5, 6]), (3, [1, 7]), (4, [7, 26]), (5, [4, 5, 6]), (6, [4, 5, 6])] Try.func63 (by kernel_rfl)
/-- waymark/waymarkref1.Node; loop heads: [] -/
def ac64 : ACode :=
 (.seq
 (.reg [
 ⟨(some 2), (.box (.tmp 0)), none, []⟩,
 ⟨(some 4), (.move (.const (.bool false))), none, []⟩] false [1, 2])
 (.seq
 (.reg [
 ⟨(some 5), (.move (.tmp 1)), none, []⟩,
 ⟨(some 6), (.bin .geq (.tmp 5) (.const (.int .i64 0))), none, []⟩,
 ⟨(some 7), (.move (.tmp 6)), none, []⟩,
 ⟨(some 8), (.move (.tmp 1)), (some (7, true)), []⟩,
 ⟨(some 9), (.fieldAddr 0 (.tmp 2)), (some (7, true)), []⟩,
 ⟨(some 10), (.load false 1 (.tmp 9)), (some (7, true)), []⟩,
 ⟨(some 11), (.bin .lss (.tmp 8) (.tmp 10)), (some (7, true)), []⟩,
 ⟨(some 12), (.pick (.tmp 7) (.tmp 11) (.const (.bool false))), none, []⟩,
 ⟨(some 4), (.move (.tmp 12)), none, []⟩] false [4])
 .ret))
-- simp set: ac64
theorem isF64 : IsFunc Try.prog 64 2 ac64 [.tmp 4] := isFunc_of _ [(0, [1, 2]), (1, [4])] Try.func64 (by kernel_rfl)
/-- waymark/prune.Right; loop heads: [] -/
def ac65 : ACode :=
 (.seq
 (.reg [
 ⟨(some 2), (.box (.tmp 0)), none, []⟩,
 ⟨(some 3), (.box (.tmp 1)), none, []⟩,
 ⟨(some 4), (.move (.const (.int .i64 0))), none, []⟩] false [2, 3])
 (.seq
 (.seq
 (.reg [
 ⟨(some 11), (.load true 2 (.tmp 2)), none, []⟩,
 ⟨(some 12), (.callF 35 [(.tmp 11)]), none, []⟩,
 ⟨(some 10), (.move (.tmp 12)), none, []⟩,
 ⟨(some 13), (.extract (.tmp 10) 0), none, []⟩,
 ⟨(some 14), (.extract (.tmp 10) 1), none, []⟩,
 ⟨(some 5), (.move (.tmp 13)), none, []⟩,
 ⟨(some 6), (.move (.tmp 14)), none, []⟩] false [2, 3, 6])
 (.seq
 (.reg [
 ⟨(some 15), (.move (.tmp 6)), none, []⟩,
 ⟨(some 16), (.bin .neq (.tmp 15) (.const (.int .i64 0))), none, []⟩] false [2, 3, 6, 16])
 (.cond (.tmp 16)
 (.seq
 (.reg [
 ⟨(some 17), (.move (.tmp 6)), none, []⟩,
 ⟨(some 4), (.move (.tmp 17)), none, []⟩] false [4])
 .ret)
 .skip)))
 (.seq
 (.reg [
 ⟨(some 18), (.makeFunc 79 [(.tmp 2)]), none, []⟩,
 ⟨(some 7), (.move (.tmp 18)), none, []⟩] false [2, 3, 7])
 (.seq
 (.reg [
 ⟨(some 19), (.makeFunc 80 [(.tmp 2)]), none, []⟩,
 ⟨(some 8), (.move (.tmp 19)), none, []⟩] false [3, 7, 8])
 (.seq
 (.reg [
 ⟨(some 9), (.move (.func 81)), none, []⟩] false [3, 7, 8, 9])
 (.seq
 (.block 0
 (.seq
 (.reg [
 ⟨(some 21), (.move (.tmp 7)), none, []⟩,
 ⟨(some 22), (.fieldAddr 0 (.tmp 3)), none, []⟩,
 ⟨(some 23), (.load false 1 (.tmp 22)), none, []⟩,
 ⟨(some 24), (.callV (.tmp 21) [(.tmp 23)]), none, []⟩,
 ⟨(some 25), (.move (.tmp 24)), none, []⟩,
 ⟨(some 26), (.move (.tmp 7)), (some (25, false)), []⟩,
 ⟨(some 27), (.fieldAddr 1 (.tmp 3)), (some (25, false)), []⟩,
 ⟨(some 28), (.load false 1 (.tmp 27)), (some (25, false)), []⟩,
 ⟨(some 29), (.callV (.tmp 26) [(.tmp 28)]), (some (25, false)), []⟩,
 ⟨(some 30), (.pick (.tmp 25) (.const (.bool true)) (.tmp 29)), none, []⟩,
 ⟨(some 31), (.move (.tmp 30)), none, []⟩,
 ⟨(some 32), (.fieldAddr 3 (.tmp 3)), (some (31, false)), []⟩,
 ⟨(some 33), (.load false 1 (.tmp 32)), (some (31, false)), []⟩,
 ⟨(some 34), (.move (.tmp 7)), (some (31, false)), []⟩,
 ⟨(some 35), (.callF 82 [(.tmp 33), (.tmp 34)]), (some (31, false)), []⟩,
 ⟨(some 36), (.pick (.tmp 31) (.const (.bool true)) (.tmp 35)), none, []⟩,
 ⟨(some 37), (.move (.tmp 36)), none, []⟩,
 ⟨(some 38), (.fieldAddr 4 (.tmp 3)), (some (37, false)), []⟩,
 ⟨(some 39), (.load false 1 (.tmp 38)), (some (37, false)), []⟩,
 ⟨(some 40), (.move (.tmp 7)), (some (37, false)), []⟩,
 ⟨(some 41), (.callF 82 [(.tmp 39), (.tmp 40)]), (some (37, false)), []⟩,
 ⟨(some 42), (.pick (.tmp 37) (.const (.bool true)) (.tmp 41)), none, []⟩,
 ⟨(some 20), (.move (.tmp 42)), none, []⟩] false [3, 8, 9, 20])
 (.cond (.tmp 20)
 (.seq
 (.reg [
 ⟨(some 4), (.move (.const (.int .i64 4))), none, []⟩] false [4])
 .ret)
 (.seq
 (.reg [
 ⟨(some 44), (.fieldAddr 5 (.tmp 3)), none, []⟩,
 ⟨(some 45), (.load false 1 (.tmp 44)), none, []⟩,
 ⟨(some 46), (.move (.tmp 8)), none, []⟩,
 ⟨(some 47), (.callF 82 [(.tmp 45), (.tmp 46)]), none, []⟩,
 ⟨(some 43), (.move (.tmp 47)), none, []⟩] false [3, 9, 43])
 (.cond (.tmp 43)
 (.seq
 (.reg [
 ⟨(some 4), (.move (.const (.int .i64 5))), none, []⟩] false [4])
 .ret)
 (.seq
 (.reg [
 ⟨(some 49), (.fieldAddr 6 (.tmp 3)), none, []⟩,
 ⟨(some 50), (.load false 1 (.tmp 49)), none, []⟩,
 ⟨(some 51), (.move (.tmp 9)), none, []⟩,
 ⟨(some 52), (.callF 82 [(.tmp 50), (.tmp 51)]), none, []⟩,
 ⟨(some 53), (.move (.tmp 52)), none, []⟩,
 ⟨(some 54), (.fieldAddr 2 (.tmp 3)), (some (53, false)), []⟩,
 ⟨(some 55), (.load false 1 (.tmp 54)), (some (53, false)), []⟩,
 ⟨(some 56), (.bin .lss (.tmp 55) (.const (.int .i64 0))), (some (53, false)), []⟩,
 ⟨(some 57), (.pick (.tmp 53) (.const (.bool true)) (.tmp 56)), none, []⟩,
 ⟨(some 48), (.move (.tmp 57)), none, []⟩] false [3, 48])
 (.cond (.tmp 48)
 (.seq
 (.reg [
 ⟨(some 4), (.move (.const (.int .i64 1))), none, []⟩] false [4])
 .ret)
 (.seq
 (.reg [
 ⟨(some 59), (.fieldAddr 3 (.tmp 3)), none, []⟩,
 ⟨(some 60), (.load false 1 (.tmp 59)), none, []⟩,
 ⟨(some 61), (.lenS (.tmp 60)), none, []⟩,
 ⟨(some 62), (.bin .gtr (.tmp 61) (.const (.int .i64 4))), none, []⟩,
 ⟨(some 58), (.move (.tmp 62)), none, []⟩] false [58])
 (.cond (.tmp 58)
 (.seq
 (.reg [
 ⟨(some 4), (.move (.const (.int .i64 6))), none, []⟩] false [4])
 .ret)
 .skip)))))))))
 (.seq
 (.reg [
 ⟨(some 4), (.move (.const (.int .i64 0))), none, []⟩] false [4])
 .ret)))))))
-- simp set: ac65
theorem isF65 : IsFunc Try.prog 65 2 ac65 [.tmp 4] := isFunc_of _ [(0, [2, 3]), (1, [2, 3, 6]), (2, [2, 3, 6, 16]), (3, [4]), (4, [2, 3, 7]), (5, [3, 7, 8]), (6, [3, 7, 8, 9]), (7, [3, 8, 9, 20]), (8, [4]), (9, [3, 9, 43]), (10, [4]), (11, [3, 48]), (12, [4]), (13, [58]), (14, [4]), (15, [4])] Try.func65 (by kernel_rfl)
/-- waymark/prune.Down; loop heads: [[2, 4, 7, 19, 20, 21]] -/
def ac66 : ACode :=
 (.seq
 (.reg [
 ⟨(some 3), (.box (.tmp 0)), none, []⟩,
 ⟨(some 4), (.box (.tmp 1)), none, []⟩,
 ⟨(some 6), (.move (.const (.slice none 0 0))), none, []⟩] false [2, 3, 4])
 (.seq
 (.seq
 (.reg [
 ⟨(some 10), (.load true 2 (.tmp 3)), none, []⟩,
 ⟨(some 11), (.load true 7 (.tmp 4)), none, []⟩,
 ⟨(some 12), (.callF 65 [(.tmp 10), (.tmp 11)]), none, []⟩,
 ⟨(some 13), (.bin .neq (.tmp 12) (.const (.int .i64 0))), none, []⟩] false [2, 3, 4, 13])
 (.cond (.tmp 13)
 (.seq
 (.reg [
 ⟨(some 6), (.move (.const (.slice none 0 0))), none, []⟩] false [6])
 .ret)
 .skip))
 (.seq
 (.reg [
 ⟨(some 14), (.fieldAddr 1 (.tmp 3)), none, []⟩,
 ⟨(some 15), (.load false 1 (.tmp 14)), none, []⟩,
 ⟨(some 16), (.lenS (.tmp 15)), none, []⟩,
 ⟨(some 17), (.makeSlice 1 1 [(.sc (.bool false))] (.tmp 16) (.tmp 16)), none, []⟩,
 ⟨(some 7), (.move (.tmp 17)), none, []⟩] false [2, 3, 4, 7])
 (.seq
 (.seq
 (.reg [
 ⟨(some 18), (.fieldAddr 1 (.tmp 3)), none, []⟩,
 ⟨(some 19), (.load false 1 (.tmp 18)), none, []⟩,
 ⟨(some 20), (.lenS (.tmp 19)), none, []⟩,
 ⟨(some 21), (.move (.const (.int .i64 0))), none, []⟩] false [2, 4, 7, 19, 20, 21])
 (.block 0
 (.loop
 (.seq
 (.reg [
 ⟨(some 22), (.bin .lss (.tmp 21) (.tmp 20)), none, []⟩] false [2, 4, 7, 19, 20, 21, 22])
 (.seq
 (.cond (.tmp 22)
 .skip
 (.exit 0))
 (.seq
 (.block 1
 (.seq
 (.reg [
 ⟨(some 23), (.move (.tmp 21)), none, []⟩,
 ⟨(some 24), (.indexAddrS 4 (.tmp 19) (.tmp 21)), none, []⟩,
 ⟨(some 25), (.load true 4 (.tmp 24)), none, []⟩,
 ⟨(some 9), (.alloc [(.sc (.int .i64 0)), (.sc (.int .i64 0)), (.sc (.int .i64 0)), (.sc (.int .i64 0))]), none, []⟩,
 ⟨(some 8), (.move (.tmp 23)), none, []⟩,
 ⟨none, (.store 4 (.tmp 9) (.tmp 25)), none, []⟩] false [2, 4, 7, 8, 9, 19, 20, 21])
 (.reg [
 ⟨(some 26), (.move (.tmp 7)), none, []⟩,
 ⟨(some 27), (.move (.tmp 8)), none, []⟩,
 ⟨(some 28), (.move (.tmp 8)), none, []⟩,
 ⟨(some 29), (.move (.tmp 2)), none, []⟩,
 ⟨(some 30), (.lenS (.tmp 29)), none, []⟩,
 ⟨(some 31), (.bin .lss (.tmp 28) (.tmp 30)), none, []⟩,
 ⟨(some 32), (.move (.tmp 31)), none, []⟩,
 ⟨(some 33), (.move (.tmp 2)), (some (32, true)), []⟩,
 ⟨(some 34), (.move (.tmp 8)), (some (32, true)), []⟩,
 ⟨(some 35), (.indexAddrS 1 (.tmp 33) (.tmp 34)), (some (32, true)), []⟩,
 ⟨(some 36), (.load false 1 (.tmp 35)), (some (32, true)), []⟩,
 ⟨(some 37), (.pick (.tmp 32) (.tmp 36) (.const (.bool false))), none, []⟩,
 ⟨(some 38), (.move (.tmp 37)), none, []⟩,
 ⟨(some 39), (.fieldAddr 5 (.tmp 4)), (some (38, false)), []⟩,
 ⟨(some 40), (.load false 1 (.tmp 39)), (some (38, false)), []⟩,
 ⟨(some 41), (.move (.tmp 8)), (some (38, false)), []⟩,
 ⟨(some 42), (.callF 83 [(.tmp 40), (.tmp 41)]), (some (38, false)), []⟩,
 ⟨(some 43), (.pick (.tmp 38) (.const (.bool true)) (.tmp 42)), none, []⟩,
 ⟨(some 44), (.move (.tmp 43)), none, []⟩,
 ⟨(some 45), (.fieldAddr 6 (.tmp 4)), (some (44, false)), []⟩,
 ⟨(some 46), (.load false 1 (.tmp 45)), (some (44, false)), []⟩,
 ⟨(some 47), (.fieldAddr 3 (.tmp 9)), (some (44, false)), []⟩,
 ⟨(some 48), (.load false 1 (.tmp 47)), (some (44, false)), []⟩,
 ⟨(some 49), (.callF 83 [(.tmp 46), (.tmp 48)]), (some (44, false)), []⟩,
 ⟨(some 50), (.pick (.tmp 44) (.const (.bool true)) (.tmp 49)), none, []⟩,
 ⟨(some 51), (.move (.tmp 50)), none, []⟩,
 ⟨(some 52), (.fieldAddr 4 (.tmp 4)), (some (51, false)), []⟩,
 ⟨(some 53), (.load false 1 (.tmp 52)), (some (51, false)), []⟩,
 ⟨(some 54), (.fieldAddr 0 (.tmp 9)), (some (51, false)), []⟩,
 ⟨(some 55), (.load false 1 (.tmp 54)), (some (51, false)), []⟩,
 ⟨(some 56), (.callF 83 [(.tmp 53), (.tmp 55)]), (some (51, false)), []⟩,
 ⟨(some 57), (.pick (.tmp 51) (.const (.bool true)) (.tmp 56)), none, []⟩,
 ⟨(some 58), (.move (.tmp 57)), none, []⟩,
 ⟨(some 59), (.fieldAddr 4 (.tmp 4)), (some (58, false)), []⟩,
 ⟨(some 60), (.load false 1 (.tmp 59)), (some (58, false)), []⟩,
 ⟨(some 61), (.fieldAddr 1 (.tmp 9)), (some (58, false)), []⟩,
 ⟨(some 62), (.load false 1 (.tmp 61)), (some (58, false)), []⟩,
 ⟨(some 63), (.callF 83 [(.tmp 60), (.tmp 62)]), (some (58, false)), []⟩,
 ⟨(some 64), (.pick (.tmp 58) (.const (.bool true)) (.tmp 63)), none, []⟩,
 ⟨(some 65), (.indexAddrS 1 (.tmp 26) (.tmp 27)), none, []⟩,
 ⟨none, (.store 1 (.tmp 65) (.tmp 64)), none, []⟩] false [2, 4, 7, 19, 20, 21])))
 (.reg [
 ⟨(some 66), (.bin .add (.tmp 21) (.const (.int .i64 1))), none, []⟩,
 ⟨(some 21), (.move (.tmp 66)), none, []⟩] false [2, 4, 7, 19, 20, 21])))))))
 (.seq
 (.reg [
 ⟨(some 67), (.move (.tmp 7)), none, []⟩,
 ⟨(some 6), (.move (.tmp 67)), none, []⟩] false [6])
 .ret)))))
-- simp set: ac66
theorem isF66 : IsFunc Try.prog 66 3 ac66 [.tmp 6] := isFunc_of _ [(0, [2, 3, 4]), (1, [2, 3, 4, 13]), (2, [6]), (3, [2, 3, 4, 7]), (4, [2, 4, 7, 19, 20, 21]), (5, [2, 4, 7, 19, 20, 21, 22]), (6, [2, 4, 7, 8, 9, 19, 20, 21]), (7, [2, 4, 7, 19, 20, 21]), (8, [2, 4, 7, 19, 20, 21]), (9, [6])] Try.func66 (by kernel_rfl)
/-- (*waymark/opt.Ways).Step; loop heads: [] -/
def op67_14 : List AOper := [
 ⟨(some 14), (.indexAddrA 2 1 (.tmp 4) (.const (.int .i64 0))), none, []⟩,
 ⟨(some 15), (.load false 1 (.tmp 14)), none, [0]⟩,
 ⟨(some 16), (.indexAddrA 2 1 (.tmp 4) (.const (.int .i64 1))), none, []⟩,
 ⟨(some 17), (.load false 1 (.tmp 16)), none, [2]⟩,
 ⟨(some 8), (.move (.tmp 15)), none, [1, 0, 1]⟩,
 ⟨(some 9), (.move (.tmp 17)), none, [3, 4, 0, 1, 2, 3, 4]⟩]
@[go_sem ↓] theorem op67_14_run {K : AExit → Fr → Store → Prop} {fr : Fr} {σ : Store} : wp Try.prog (.reg op67_14 true [0, 2, 6, 8, 9]) K fr σ = wpOpsD Try.prog (Kreg [0, 2, 6, 8, 9] K) op67_14 (Fr.get fr) σ := wp_draw (by kernel_rfl)
def op67_73 : List AOper := [
 ⟨(some 73), (.move (.tmp 12)), none, []⟩,
 ⟨(some 74), (.un .not (.tmp 73)), none, [0]⟩,
 ⟨(some 75), (.move (.tmp 74)), none, [1]⟩,
 ⟨(some 76), (.move (.tmp 10)), (some (75, false)), [2]⟩,
 ⟨(some 77), (.move (.tmp 8)), (some (75, false)), [2]⟩,
 ⟨(some 78), (.bin .neq (.tmp 76) (.tmp 77)), (some (75, false)), [3, 4, 2]⟩,
 ⟨(some 79), (.pick (.tmp 75) (.const (.bool true)) (.tmp 78)), none, [2, 5]⟩,
 ⟨(some 80), (.move (.tmp 79)), none, [6, 2]⟩,
 ⟨(some 81), (.move (.tmp 0)), (some (80, false)), [7]⟩,
 ⟨(some 82), (.nilCheck (.tmp 81)), (some (80, false)), [8, 7]⟩,
 ⟨(some 83), (.fieldAddr 3 (.tmp 82)), (some (80, false)), [9, 7]⟩,
 ⟨(some 84), (.load false 1 (.tmp 83)), (some (80, false)), [10, 7]⟩,
 ⟨(some 85), (.move (.tmp 2)), (some (80, false)), [7]⟩,
 ⟨(some 86), (.callF 51 [(.tmp 84), (.tmp 85)]), (some (80, false)), [11, 12, 7, 7]⟩,
 ⟨(some 87), (.un .not (.tmp 86)), (some (80, false)), [13, 7]⟩,
 ⟨(some 88), (.pick (.tmp 80) (.const (.bool true)) (.tmp 87)), none, [7, 14]⟩,
 ⟨(some 89), (.move (.tmp 88)), none, [15, 13]⟩,
 ⟨(some 90), (.move (.tmp 13)), (some (89, false)), [16]⟩,
 ⟨(some 91), (.move (.tmp 11)), (some (89, false)), [16]⟩,
 ⟨(some 92), (.indexAddrS 1 (.tmp 90) (.tmp 91)), (some (89, false)), [17, 18, 16]⟩,
 ⟨(some 93), (.load false 1 (.tmp 92)), (some (89, false)), [19, 16]⟩,
 ⟨(some 94), (.bin .lss (.tmp 93) (.const (.int .i64 0))), (some (89, false)), [20, 16]⟩,
 ⟨(some 95), (.pick (.tmp 89) (.const (.bool true)) (.tmp 94)), none, [16, 21]⟩,
 ⟨(some 96), (.move (.tmp 95)), none, [22, 16]⟩,
 ⟨(some 97), (.move (.tmp 13)), (some (96, false)), [23]⟩,
 ⟨(some 98), (.move (.tmp 8)), (some (96, false)), [23]⟩,
 ⟨(some 99), (.indexAddrS 1 (.tmp 97) (.tmp 98)), (some (96, false)), [24, 25, 23]⟩,
 ⟨(some 100), (.load false 1 (.tmp 99)), (some (96, false)), [26, 23]⟩,
 ⟨(some 101), (.move (.tmp 13)), (some (96, false)), [23]⟩,
 ⟨(some 102), (.move (.tmp 11)), (some (96, false)), [23]⟩,
 ⟨(some 103), (.indexAddrS 1 (.tmp 101) (.tmp 102)), (some (96, false)), [28, 29, 23]⟩,
 ⟨(some 104), (.load false 1 (.tmp 103)), (some (96, false)), [30, 23]⟩,
 ⟨(some 105), (.move (.tmp 0)), (some (96, false)), [23]⟩,
 ⟨(some 106), (.nilCheck (.tmp 105)), (some (96, false)), [32, 23]⟩,
 ⟨(some 107), (.fieldAddr 0 (.tmp 106)), (some (96, false)), [33, 23]⟩,
 ⟨(some 108), (.fieldAddr 1 (.tmp 107)), (some (96, false)), [34, 23]⟩,
 ⟨(some 109), (.load false 1 (.tmp 108)), (some (96, false)), [35, 23]⟩,
 ⟨(some 110), (.move (.tmp 2)), (some (96, false)), [23]⟩,
 ⟨(some 111), (.bin .quo (.tmp 110) (.const (.int .i64 2))), (some (96, false)), [37, 23]⟩,
 ⟨(some 112), (.indexAddrS 4 (.tmp 109) (.tmp 111)), (some (96, false)), [36, 38, 23]⟩,
 ⟨(some 113), (.fieldAddr 2 (.tmp 112)), (some (96, false)), [39, 23]⟩,
 ⟨(some 114), (.load false 1 (.tmp 113)), (some (96, false)), [40, 23]⟩,
 ⟨(some 115), (.bin .add (.tmp 104) (.tmp 114)), (some (96, false)), [31, 41, 23]⟩,
 ⟨(some 116), (.bin .neq (.tmp 100) (.tmp 115)), (some (96, false)), [27, 42, 23]⟩,
 ⟨(some 117), (.pick (.tmp 96) (.const (.bool true)) (.tmp 116)), none, [23, 43]⟩]
@[go_sem ↓] theorem op67_73_run {K : AExit → Fr → Store → Prop} {fr : Fr} {σ : Store} : wp Try.prog (.reg op67_73 true [0, 6, 9, 11, 117]) K fr σ = wpOpsD Try.prog (Kreg [0, 6, 9, 11, 117] K) op67_73 (Fr.get fr) σ := wp_draw (by kernel_rfl)
def ac67 : ACode :=
 (.seq
 (.reg [
 ⟨(some 4), (.box (.tmp 1)), none, []⟩,
 ⟨(some 6), (.alloc [(.sc (.int .i64 0)), (.sc (.int .i64 0))]), none, []⟩,
 ⟨(some 7), (.move (.const (.bool false))), none, []⟩] false [0, 2, 4, 6])
 (.seq
 (.reg op67_14 true [0, 2, 6, 8, 9])
 (.seq
 (.seq
 (.reg [
 ⟨(some 18), (.move (.tmp 0)), none, []⟩,
 ⟨(some 19), (.eqPtr false (.tmp 18) (.const (.pointer none))), none, []⟩,
 ⟨(some 20), (.move (.tmp 19)), none, []⟩,
 ⟨(some 21), (.move (.tmp 9)), (some (20, false)), []⟩,
 ⟨(some 22), (.bin .lss (.tmp 21) (.const (.int .i64 0))), (some (20, false)), []⟩,
 ⟨(some 23), (.pick (.tmp 20) (.const (.bool true)) (.tmp 22)), none, []⟩,
 ⟨(some 24), (.move (.tmp 23)), none, []⟩,
 ⟨(some 25), (.move (.tmp 9)), (some (24, false)), []⟩,
 ⟨(some 26), (.move (.tmp 0)), (some (24, false)), []⟩,
 ⟨(some 27), (.nilCheck (.tmp 26)), (some (24, false)), []⟩,
 ⟨(some 28), (.fieldAddr 2 (.tmp 27)), (some (24, false)), []⟩,
 ⟨(some 29), (.load false 1 (.tmp 28)), (some (24, false)), []⟩,
 ⟨(some 30), (.lenS (.tmp 29)), (some (24, false)), []⟩,
 ⟨(some 31), (.bin .sub (.tmp 30) (.const (.int .i64 1))), (some (24, false)), []⟩,
 ⟨(some 32), (.bin .geq (.tmp 25) (.tmp 31)), (some (24, false)), []⟩,
 ⟨(some 33), (.pick (.tmp 24) (.const (.bool true)) (.tmp 32)), none, []⟩,
 ⟨(some 34), (.move (.tmp 33)), none, []⟩,
 ⟨(some 35), (.move (.tmp 0)), (some (34, false)), []⟩,
 ⟨(some 36), (.nilCheck (.tmp 35)), (some (34, false)), []⟩,
 ⟨(some 37), (.fieldAddr 0 (.tmp 36)), (some (34, false)), []⟩,
 ⟨(some 38), (.load true 2 (.tmp 37)), (some (34, false)), []⟩,
 ⟨(some 39), (.move (.tmp 8)), (some (34, false)), []⟩,
 ⟨(some 40), (.callF 28 [(.tmp 38), (.tmp 39)]), (some (34, false)), []⟩,
 ⟨(some 41), (.un .not (.tmp 40)), (some (34, false)), []⟩,
 ⟨(some 42), (.pick (.tmp 34) (.const (.bool true)) (.tmp 41)), none, []⟩,
 ⟨(some 43), (.move (.tmp 42)), none, []⟩,
 ⟨(some 44), (.move (.tmp 0)), (some (43, false)), []⟩,
 ⟨(some 45), (.nilCheck (.tmp 44)), (some (43, false)), []⟩,
 ⟨(some 46), (.fieldAddr 2 (.tmp 45)), (some (43, false)), []⟩,
 ⟨(some 47), (.load false 1 (.tmp 46)), (some (43, false)), []⟩,
 ⟨(some 48), (.move (.tmp 9)), (some (43, false)), []⟩,
 ⟨(some 49), (.bin .add (.tmp 48) (.const (.int .i64 1))), (some (43, false)), []⟩,
 ⟨(some 50), (.indexAddrS 1 (.tmp 47) (.tmp 49)), (some (43, false)), []⟩,
 ⟨(some 51), (.load false 1 (.tmp 50)), (some (43, false)), []⟩,
 ⟨(some 52), (.move (.tmp 8)), (some (43, false)), []⟩,
 ⟨(some 53), (.bin .eql (.tmp 51) (.tmp 52)), (some (43, false)), []⟩,
 ⟨(some 54), (.pick (.tmp 43) (.const (.bool true)) (.tmp 53)), none, []⟩] false [0, 2, 6, 8, 9, 54])
 (.cond (.tmp 54)
 (.seq
 (.reg [
 ⟨(some 55), (.build [(.sc (.int .i64 0)), (.sc (.int .i64 0))] []), none, []⟩,
 ⟨none, (.store 2 (.tmp 6) (.tmp 55)), none, []⟩,
 ⟨(some 7), (.move (.const (.bool false))), none, []⟩] false [6, 7])
 .ret)
 .skip))
 (.seq
 (.reg [
 ⟨(some 57), (.move (.tmp 0)), none, []⟩,
 ⟨(some 58), (.nilCheck (.tmp 57)), none, []⟩,
 ⟨(some 59), (.fieldAddr 0 (.tmp 58)), none, []⟩,
 ⟨(some 60), (.load true 2 (.tmp 59)), none, []⟩,
 ⟨(some 61), (.move (.tmp 2)), none, []⟩,
 ⟨(some 62), (.callF 63 [(.tmp 60), (.tmp 61)]), none, []⟩,
 ⟨(some 56), (.move (.tmp 62)), none, []⟩,
 ⟨(some 63), (.extract (.tmp 56) 0), none, []⟩,
 ⟨(some 64), (.extract (.tmp 56) 1), none, []⟩,
 ⟨(some 65), (.extract (.tmp 56) 2), none, []⟩,
 ⟨(some 10), (.move (.tmp 63)), none, []⟩,
 ⟨(some 11), (.move (.tmp 64)), none, []⟩,
 ⟨(some 12), (.move (.tmp 65)), none, []⟩] false [0, 2, 6, 8, 9, 10, 11, 12])
 (.seq
 (.reg [
 ⟨(some 66), (.move (.tmp 0)), none, []⟩,
 ⟨(some 67), (.nilCheck (.tmp 66)), none, []⟩,
 ⟨(some 68), (.fieldAddr 4 (.tmp 67)), none, []⟩,
 ⟨(some 69), (.load false 1 (.tmp 68)), none, []⟩,
 ⟨(some 70), (.move (.tmp 9)), none, []⟩,
 ⟨(some 71), (.indexAddrS 1 (.tmp 69) (.tmp 70)), none, []⟩,
 ⟨(some 72), (.load false 1 (.tmp 71)), none, []⟩,
 ⟨(some 13), (.move (.tmp 72)), none, []⟩] false [0, 2, 6, 8, 9, 10, 11, 12, 13])
 (.seq
 (.seq
 (.reg op67_73 true [0, 6, 9, 11, 117])
 (.cond (.tmp 117)
 (.seq
 (.reg [
 ⟨(some 118), (.build [(.sc (.int .i64 0)), (.sc (.int .i64 0))] []), none, []⟩,
 ⟨none, (.store 2 (.tmp 6) (.tmp 118)), none, []⟩,
 ⟨(some 7), (.move (.const (.bool false))), none, []⟩] false [6, 7])
 .ret)
 .skip))
 (.seq
 (.reg [
 ⟨(some 119), (.move (.tmp 0)), none, []⟩,
 ⟨(some 120), (.nilCheck (.tmp 119)), none, []⟩,
 ⟨(some 121), (.fieldAddr 2 (.tmp 120)), none, []⟩,
 ⟨(some 122), (.load false 1 (.tmp 121)), none, []⟩,
 ⟨(some 123), (.move (.tmp 11)), none, []⟩,
 ⟨(some 124), (.move (.tmp 9)), none, []⟩,
 ⟨(some 125), (.callF 44 [(.tmp 122), (.tmp 123), (.tmp 124)]), none, []⟩,
 ⟨none, (.store 2 (.tmp 6) (.tmp 125)), none, []⟩,
 ⟨(some 7), (.move (.const (.bool true))), none, []⟩] false [6, 7])
 .ret)))))))
-- simp set: ac67, op67_14, op67_73
theorem isF67 : IsFunc Try.prog 67 3 ac67 [.cell 6 true 2, .tmp 7] := isFunc_of _ [(0, [0, 2, 4, 6]), (1, [0, 2, 6, 8, 9]), (2, [0, 2, 6, 8, 9, 54]), (3, [6, 7]), (4, [0, 2, 6, 8, 9, 10, 11, 12]), (5, [0, 2, 6, 8, 9, 10, 11, 12, 13]), (6, [0, 6, 9, 11, 117]), (7, [6, 7]), (8, [6, 7])] Try.func67 (by kernel_rfl)
/-- (*waymark/expand.Map).node; loop heads: [[0, 2, 6, 9, 57, 58, 59], [0, 2, 6, 9, 11, 57, 58, 59, 69, 70, 71]] -/
def op68_48 : List AOper := [
 ⟨(some 48), (.move (.tmp 9)), none, []⟩,
 ⟨(some 49), (.move (.tmp 8)), none, []⟩,
 ⟨(some 50), (.indexAddrA 2 1 (.tmp 4) (.const (.int .i64 1))), none, []⟩,
 ⟨(some 51), (.load false 1 (.tmp 50)), none, [2]⟩,
 ⟨(some 52), (.indexAddrS 6 (.tmp 48) (.tmp 49)), none, [0, 1]⟩,
 ⟨(some 53), (.indexAddrA 6 1 (.tmp 52) (.tmp 51)), none, [4, 3, 0, 1, 2, 3]⟩,
 ⟨none, (.store 1 (.tmp 53) (.const (.bool true))), none, [5, 0, 1, 2, 3]⟩]
@[go_sem ↓] theorem op68_48_run {K : AExit → Fr → Store → Prop} {fr : Fr} {σ : Store} : wp Try.prog (.reg op68_48 true [0, 2, 6, 8, 9]) K fr σ = wpOpsD Try.prog (Kreg [0, 2, 6, 8, 9] K) op68_48 (Fr.get fr) σ := wp_draw (by kernel_rfl)
def ac68 : ACode :=
 (.seq
 (.reg [
 ⟨(some 4), (.box (.tmp 1)), none, []⟩,
 ⟨(some 6), (.alloc [(.sc (.int .i64 0)), (.sc (.int .i64 0))]), none, []⟩,
 ⟨(some 7), (.move (.const (.bool false))), none, []⟩] false [0, 2, 4, 6])
 (.seq
 (.reg [
 ⟨(some 16), (.indexAddrA 2 1 (.tmp 4) (.const (.int .i64 0))), none, []⟩,
 ⟨(some 17), (.load false 1 (.tmp 16)), none, []⟩,
 ⟨(some 8), (.move (.tmp 17)), none, []⟩] false [0, 2, 4, 6, 8])
 (.seq
 (.seq
 (.reg [
 ⟨(some 18), (.move (.tmp 8)), none, []⟩,
 ⟨(some 19), (.move (.tmp 2)), none, []⟩,
 ⟨(some 20), (.bin .eql (.tmp 18) (.tmp 19)), none, []⟩,
 ⟨(some 21), (.move (.tmp 20)), none, []⟩,
 ⟨(some 22), (.move (.tmp 0)), (some (21, false)), []⟩,
 ⟨(some 23), (.nilCheck (.tmp 22)), (some (21, false)), []⟩,
 ⟨(some 24), (.fieldAddr 0 (.tmp 23)), (some (21, false)), []⟩,
 ⟨(some 25), (.load false 1 (.tmp 24)), (some (21, false)), []⟩,
 ⟨(some 26), (.move (.tmp 8)), (some (21, false)), []⟩,
 ⟨(some 27), (.move (.tmp 2)), (some (21, false)), []⟩,
 ⟨(some 28), (.callF 84 [(.tmp 25), (.tmp 26), (.tmp 27)]), (some (21, false)), []⟩,
 ⟨(some 29), (.bin .lss (.tmp 28) (.const (.int .i64 0))), (some (21, false)), []⟩,
 ⟨(some 30), (.pick (.tmp 21) (.const (.bool true)) (.tmp 29)), none, []⟩,
 ⟨(some 31), (.move (.tmp 30)), none, []⟩,
 ⟨(some 32), (.indexAddrA 2 1 (.tmp 4) (.const (.int .i64 1))), (some (31, false)), []⟩,
 ⟨(some 33), (.load false 1 (.tmp 32)), (some (31, false)), []⟩,
 ⟨(some 34), (.bin .lss (.tmp 33) (.const (.int .i64 0))), (some (31, false)), []⟩,
 ⟨(some 35), (.pick (.tmp 31) (.const (.bool true)) (.tmp 34)), none, []⟩,
 ⟨(some 36), (.move (.tmp 35)), none, []⟩,
 ⟨(some 37), (.indexAddrA 2 1 (.tmp 4) (.const (.int .i64 1))), (some (36, false)), []⟩,
 ⟨(some 38), (.load false 1 (.tmp 37)), (some (36, false)), []⟩,
 ⟨(some 39), (.bin .geq (.tmp 38) (.const (.int .i64 6))), (some (36, false)), []⟩,
 ⟨(some 40), (.pick (.tmp 36) (.const (.bool true)) (.tmp 39)), none, []⟩] false [0, 2, 4, 6, 8, 40])
 (.cond (.tmp 40)
 (.seq
 (.reg [
 ⟨(some 41), (.build [(.sc (.int .i64 0)), (.sc (.int .i64 0))] []), none, []⟩,
 ⟨none, (.store 2 (.tmp 6) (.tmp 41)), none, []⟩,
 ⟨(some 7), (.move (.const (.bool false))), none, []⟩] false [6, 7])
 .ret)
 .skip))
 (.seq
 (.reg [
 ⟨(some 42), (.move (.tmp 0)), none, []⟩,
 ⟨(some 43), (.nilCheck (.tmp 42)), none, []⟩,
 ⟨(some 44), (.fieldAddr 1 (.tmp 43)), none, []⟩,
 ⟨(some 45), (.fieldAddr 0 (.tmp 44)), none, []⟩,
 ⟨(some 46), (.load false 1 (.tmp 45)), none, []⟩,
 ⟨(some 47), (.makeSlice 6 6 [(.sc (.bool false)), (.sc (.bool false)), (.sc (.bool false)), (.sc (.bool false)), (.sc (.bool false)), (.sc (.bool false))] (.tmp 46) (.tmp 46)), none, []⟩,
 ⟨(some 9), (.move (.tmp 47)), none, []⟩] false [0, 2, 4, 6, 8, 9])
 (.seq
 (.reg op68_48 true [0, 2, 6, 8, 9])
 (.seq
 (.seq
 (.reg [
 ⟨(some 54), (.move (.tmp 0)), none, []⟩,
 ⟨(some 55), (.move (.tmp 8)), none, []⟩,
 ⟨(some 56), (.move (.tmp 2)), none, []⟩,
 ⟨(some 57), (.callF 85 [(.tmp 54), (.tmp 55), (.tmp 56)]), none, []⟩,
 ⟨(some 58), (.lenS (.tmp 57)), none, []⟩,
 ⟨(some 59), (.move (.const (.int .i64 0))), none, []⟩] false [0, 2, 6, 9, 57, 58, 59])
 (.block 0
 (.loop
 (.seq
 (.reg [
 ⟨(some 60), (.bin .lss (.tmp 59) (.tmp 58)), none, []⟩] false [0, 2, 6, 9, 57, 58, 59, 60])
 (.seq
 (.cond (.tmp 60)
 .skip
 (.exit 0))
 (.seq
 (.block 1
 (.seq
 (.reg [
 ⟨(some 61), (.indexAddrS 1 (.tmp 57) (.tmp 59)), none, []⟩,
 ⟨(some 62), (.load false 1 (.tmp 61)), none, []⟩,
 ⟨(some 11), (.move (.tmp 62)), none, []⟩] false [0, 2, 6, 9, 11, 57, 58, 59])
 (.seq
 (.reg [
 ⟨(some 63), (.move (.tmp 0)), none, []⟩,
 ⟨(some 64), (.nilCheck (.tmp 63)), none, []⟩,
 ⟨(some 65), (.fieldAddr 0 (.tmp 64)), none, []⟩,
 ⟨(some 66), (.load false 1 (.tmp 65)), none, []⟩,
 ⟨(some 67), (.move (.tmp 11)), none, []⟩,
 ⟨(some 68), (.move (.tmp 2)), none, []⟩,
 ⟨(some 69), (.callF 70 [(.tmp 66), (.tmp 67), (.tmp 68)]), none, []⟩,
 ⟨(some 70), (.lenS (.tmp 69)), none, []⟩,
 ⟨(some 71), (.move (.const (.int .i64 0))), none, []⟩] false [0, 2, 6, 9, 11, 57, 58, 59, 69, 70, 71])
 (.block 2
 (.loop
 (.seq
 (.reg [
 ⟨(some 72), (.bin .lss (.tmp 71) (.tmp 70)), none, []⟩] false [0, 2, 6, 9, 11, 57, 58, 59, 69, 70, 71, 72])
 (.seq
 (.cond (.tmp 72)
 .skip
 (.exit 2))
 (.seq
 (.block 3
 (.seq
 (.reg [
 ⟨(some 73), (.indexAddrS 1 (.tmp 69) (.tmp 71)), none, []⟩,
 ⟨(some 74), (.load false 1 (.tmp 73)), none, []⟩,
 ⟨(some 13), (.move (.tmp 74)), none, []⟩] false [0, 2, 6, 9, 11, 13, 57, 58, 59, 69, 70, 71])
 (.seq
 (.reg [
 ⟨(some 75), (.move (.tmp 0)), none, []⟩,
 ⟨(some 76), (.move (.tmp 9)), none, []⟩,
 ⟨(some 77), (.move (.tmp 11)), none, []⟩,
 ⟨(some 78), (.move (.tmp 13)), none, []⟩,
 ⟨(some 79), (.callF 86 [(.tmp 75), (.tmp 76), (.tmp 77), (.tmp 78)]), none, []⟩,
 ⟨(some 80), (.un .not (.tmp 79)), none, []⟩] false [0, 2, 6, 9, 11, 57, 58, 59, 69, 70, 71, 80])
 (.cond (.tmp 80)
 (.seq
 (.reg [
 ⟨(some 81), (.build [(.sc (.int .i64 0)), (.sc (.int .i64 0))] []), none, []⟩,
 ⟨none, (.store 2 (.tmp 6) (.tmp 81)), none, []⟩,
 ⟨(some 7), (.move (.const (.bool false))), none, []⟩] false [6, 7])
 .ret)
 .skip))))
 (.reg [
 ⟨(some 82), (.bin .add (.tmp 71) (.const (.int .i64 1))), none, []⟩,
 ⟨(some 71), (.move (.tmp 82)), none, []⟩] false [0, 2, 6, 9, 11, 57, 58, 59, 69, 70, 71])))))))))
 (.reg [
 ⟨(some 83), (.bin .add (.tmp 59) (.const (.int .i64 1))), none, []⟩,
 ⟨(some 59), (.move (.tmp 83)), none, []⟩] false [0, 2, 6, 9, 57, 58, 59])))))))
 (.seq
 (.reg [
 ⟨(some 85), (.move (.tmp 9)), none, []⟩,
 ⟨(some 86), (.move (.tmp 2)), none, []⟩,
 ⟨(some 87), (.indexAddrS 6 (.tmp 85) (.tmp 86)), none, []⟩,
 ⟨(some 88), (.load true 6 (.tmp 87)), none, []⟩,
 ⟨(some 89), (.callF 87 [(.tmp 88)]), none, []⟩,
 ⟨(some 84), (.move (.tmp 89)), none, []⟩,
 ⟨(some 90), (.extract (.tmp 84) 0), none, []⟩,
 ⟨(some 91), (.extract (.tmp 84) 1), none, []⟩,
 ⟨(some 14), (.move (.tmp 90)), none, []⟩,
 ⟨(some 15), (.move (.tmp 91)), none, []⟩] false [2, 6, 14, 15])
 (.seq
 (.seq
 (.reg [
 ⟨(some 92), (.move (.tmp 15)), none, []⟩,
 ⟨(some 93), (.un .not (.tmp 92)), none, []⟩] false [2, 6, 14, 93])
 (.cond (.tmp 93)
 (.seq
 (.reg [
 ⟨(some 94), (.build [(.sc (.int .i64 0)), (.sc (.int .i64 0))] []), none, []⟩,
 ⟨none, (.store 2 (.tmp 6) (.tmp 94)), none, []⟩,
 ⟨(some 7), (.move (.const (.bool false))), none, []⟩] false [6, 7])
 .ret)
 .skip))
 (.seq
 (.reg [
 ⟨(some 95), (.move (.tmp 2)), none, []⟩,
 ⟨(some 96), (.move (.tmp 14)), none, []⟩,
 ⟨(some 97), (.build [(.sc (.int .i64 0)), (.sc (.int .i64 0))] [(0, 1, (.tmp 95)), (1, 1, (.tmp 96))]), none, []⟩,
 ⟨none, (.store 2 (.tmp 6) (.tmp 97)), none, []⟩,
 ⟨(some 7), (.move (.const (.bool true))), none, []⟩] false [6, 7])
 .ret)))))))))
-- simp set: ac68, op68_48
theorem isF68 : IsFunc Try.prog 68 3 ac68 [.cell 6 true 2, .tmp 7] := isFunc_of _ [(0, [0, 2, 4, 6]), (1, [0, 2, 4, 6, 8]), (2, [0, 2, 4, 6, 8, 40]), (3, [6, 7]), (4, [0, 2, 4, 6, 8, 9]), (5, [0, 2, 6, 8, 9]), (6, [0, 2, 6, 9, 57, 58, 59]), (7, [0, 2, 6, 9, 57, 58, 59, 60]), (8, [0, 2, 6, 9, 11, 57, 58, 59]), (9, [0, 2, 6, 9, 11, 57, 58, 59, 69, 70, 71]), (10, [0, 2, 6, 9, 11, 57, 58, 59, 69, 70, 71, 72]), (11, [0, 2, 6, 9, 11, 13, 57, 58, 59, 69, 70, 71]), (12, [0, 2, 6, 9, 11, 57, 58, 59, 69, 70, 71, 80]), (13, [6, 7]), (14, [0, 2, 6, 9, 11, 57, 58, 59, 69, 70, 71]), (15, [0, 2, 6, 9, 57, 58, 59]), (16, [2, 6, 14, 15]), (17, [2, 6, 14, 93]), (18, [6, 7]), (19, [6, 7])] Try.func68 (by kernel_rfl)
/-- waymark/fib.Is; loop heads: [] -/
def ac69 : ACode :=
 (.seq
 (.reg [
 ⟨(some 2), (.box (.tmp 0)), none, []⟩,
 ⟨(some 3), (.box (.tmp 1)), none, []⟩,
 ⟨(some 4), (.move (.const (.bool false))), none, []⟩] false [2, 3])
 (.seq
 (.seq
 (.reg [
 ⟨(some 5), (.fieldAddr 0 (.tmp 3)), none, []⟩,
 ⟨(some 6), (.load false 1 (.tmp 5)), none, []⟩] false [2, 3, 6])
 (.cond (.tmp 6)
 (.seq
 (.reg [
 ⟨(some 7), (.fieldAddr 1 (.tmp 3)), none, []⟩,
 ⟨(some 8), (.load false 1 (.tmp 7)), none, []⟩,
 ⟨(some 9), (.bin .geq (.tmp 8) (.const (.int .i64 0))), none, []⟩,
 ⟨(some 10), (.move (.tmp 9)), none, []⟩,
 ⟨(some 11), (.fieldAddr 1 (.tmp 3)), (some (10, true)), []⟩,
 ⟨(some 12), (.load false 1 (.tmp 11)), (some (10, true)), []⟩,
 ⟨(some 13), (.fieldAddr 1 (.tmp 2)), (some (10, true)), []⟩,
 ⟨(some 14), (.load false 1 (.tmp 13)), (some (10, true)), []⟩,
 ⟨(some 15), (.lenS (.tmp 14)), (some (10, true)), []⟩,
 ⟨(some 16), (.bin .mul (.const (.int .i64 2)) (.tmp 15)), (some (10, true)), []⟩,
 ⟨(some 17), (.bin .lss (.tmp 12) (.tmp 16)), (some (10, true)), []⟩,
 ⟨(some 18), (.pick (.tmp 10) (.tmp 17) (.const (.bool false))), none, []⟩,
 ⟨(some 4), (.move (.tmp 18)), none, []⟩] false [4])
 .ret)
 .skip))
 (.seq
 (.reg [
 ⟨(some 19), (.load true 2 (.tmp 2)), none, []⟩,
 ⟨(some 20), (.fieldAddr 1 (.tmp 3)), none, []⟩,
 ⟨(some 21), (.load false 1 (.tmp 20)), none, []⟩,
 ⟨(some 22), (.callF 28 [(.tmp 19), (.tmp 21)]), none, []⟩,
 ⟨(some 4), (.move (.tmp 22)), none, []⟩] false [4])
 .ret)))
-- simp set: ac69
theorem isF69 : IsFunc Try.prog 69 2 ac69 [.tmp 4] := isFunc_of _ [(0, [2, 3]), (1, [2, 3, 6]), (2, [4]), (3, [4])] Try.func69 (by kernel_rfl)
/-- (*waymark/tables.Tables).Next; loop heads: [] -/
def ac70 : ACode :=
 (.seq
 (.reg [
 ⟨(some 6), (.move (.const (.slice none 0 0))), none, []⟩] false [0, 1, 2])
 (.seq
 (.seq
 (.reg [
 ⟨(some 7), (.move (.tmp 0)), none, []⟩,
 ⟨(some 8), (.move (.tmp 1)), none, []⟩,
 ⟨(some 9), (.callF 88 [(.tmp 7), (.tmp 8)]), none, []⟩,
 ⟨(some 10), (.un .not (.tmp 9)), none, []⟩,
 ⟨(some 11), (.move (.tmp 10)), none, []⟩,
 ⟨(some 12), (.move (.tmp 0)), (some (11, false)), []⟩,
 ⟨(some 13), (.move (.tmp 2)), (some (11, false)), []⟩,
 ⟨(some 14), (.callF 88 [(.tmp 12), (.tmp 13)]), (some (11, false)), []⟩,
 ⟨(some 15), (.un .not (.tmp 14)), (some (11, false)), []⟩,
 ⟨(some 16), (.pick (.tmp 11) (.const (.bool true)) (.tmp 15)), none, []⟩] false [0, 1, 2, 16])
 (.cond (.tmp 16)
 (.seq
 (.reg [
 ⟨(some 6), (.move (.const (.slice none 0 0))), none, []⟩] false [6])
 .ret)
 .skip))
 (.seq
 (.reg [
 ⟨(some 17), (.move (.tmp 0)), none, []⟩,
 ⟨(some 18), (.nilCheck (.tmp 17)), none, []⟩,
 ⟨(some 19), (.fieldAddr 3 (.tmp 18)), none, []⟩,
 ⟨(some 20), (.load false 1 (.tmp 19)), none, []⟩,
 ⟨(some 21), (.move (.tmp 2)), none, []⟩,
 ⟨(some 22), (.indexAddrS 1 (.tmp 20) (.tmp 21)), none, []⟩,
 ⟨(some 23), (.load false 1 (.tmp 22)), none, []⟩,
 ⟨(some 24), (.move (.tmp 1)), none, []⟩,
 ⟨(some 25), (.indexAddrS 1 (.tmp 23) (.tmp 24)), none, []⟩,
 ⟨(some 26), (.load false 1 (.tmp 25)), none, []⟩,
 ⟨(some 27), (.callF 89 [(.tmp 26)]), none, []⟩,
 ⟨(some 6), (.move (.tmp 27)), none, []⟩] false [6])
 .ret)))
-- simp set: ac70
theorem isF70 : IsFunc Try.prog 70 3 ac70 [.tmp 6] := isFunc_of _ [(0, [0, 1, 2]), (1, [0, 1, 2, 16]), (2, [6]), (3, [6])] Try.func70 (by kernel_rfl)
/-- waymark/repair.Around; loop heads: [] -/
def ac71 : ACode :=
 (.seq
 (.reg [
 ⟨(some 8), (.move (.const (.slice none 0 0))), none, []⟩,
 ⟨(some 9), (.move (.const (.int .i64 0))), none, []⟩] false [0, 1, 2, 3])
 (.seq
 (.seq
 (.reg [
 ⟨(some 15), (.move (.tmp 0)), none, []⟩,
 ⟨(some 16), (.eqPtr false (.tmp 15) (.const (.pointer none))), none, []⟩] false [0, 1, 2, 3, 16])
 (.cond (.tmp 16)
 (.seq
 (.reg [
 ⟨(some 8), (.move (.const (.slice none 0 0))), none, []⟩,
 ⟨(some 9), (.move (.const (.int .i64 1))), none, []⟩] false [8, 9])
 .ret)
 .skip))
 (.seq
 (.reg [
 ⟨(some 17), (.move (.tmp 0)), none, []⟩,
 ⟨(some 18), (.callF 27 [(.tmp 17)]), none, []⟩,
 ⟨(some 10), (.alloc [(.sc (.int .i64 0)), .nils]), none, []⟩,
 ⟨none, (.store 2 (.tmp 10) (.tmp 18)), none, []⟩] false [0, 1, 2, 3, 10])
 (.seq
 (.reg [
 ⟨(some 20), (.load true 2 (.tmp 10)), none, []⟩,
 ⟨(some 21), (.move (.tmp 1)), none, []⟩,
 ⟨(some 22), (.callF 63 [(.tmp 20), (.tmp 21)]), none, []⟩,
 ⟨(some 19), (.move (.tmp 22)), none, []⟩,
 ⟨(some 23), (.extract (.tmp 19) 0), none, []⟩,
 ⟨(some 24), (.extract (.tmp 19) 1), none, []⟩,
 ⟨(some 25), (.extract (.tmp 19) 2), none, []⟩,
 ⟨(some 11), (.move (.tmp 23)), none, []⟩,
 ⟨(some 12), (.move (.tmp 24)), none, []⟩,
 ⟨(some 13), (.move (.tmp 25)), none, []⟩] false [0, 1, 2, 3, 10, 11, 13])
 (.seq
 (.seq
 (.reg [
 ⟨(some 26), (.move (.tmp 13)), none, []⟩,
 ⟨(some 27), (.un .not (.tmp 26)), none, []⟩] false [0, 1, 2, 3, 10, 11, 27])
 (.cond (.tmp 27)
 (.seq
 (.reg [
 ⟨(some 8), (.move (.const (.slice none 0 0))), none, []⟩,
 ⟨(some 9), (.move (.const (.int .i64 5))), none, []⟩] false [8, 9])
 .ret)
 .skip))
 (.seq
 (.reg [
 ⟨(some 28), (.fieldAddr 1 (.tmp 10)), none, []⟩,
 ⟨(some 29), (.load false 1 (.tmp 28)), none, []⟩,
 ⟨(some 30), (.lenS (.tmp 29)), none, []⟩,
 ⟨(some 31), (.makeSlice 1 1 [(.sc (.bool false))] (.tmp 30) (.tmp 30)), none, []⟩,
 ⟨(some 14), (.move (.tmp 31)), none, []⟩] false [0, 1, 2, 3, 11, 14])
 (.seq
 (.reg [
 ⟨(some 32), (.move (.tmp 14)), none, []⟩,
 ⟨(some 33), (.move (.tmp 1)), none, []⟩,
 ⟨(some 34), (.bin .quo (.tmp 33) (.const (.int .i64 2))), none, []⟩,
 ⟨(some 35), (.indexAddrS 1 (.tmp 32) (.tmp 34)), none, []⟩,
 ⟨none, (.store 1 (.tmp 35) (.const (.bool true))), none, []⟩] false [0, 2, 3, 11, 14])
 (.seq
 (.reg [
 ⟨(some 36), (.move (.tmp 0)), none, []⟩,
 ⟨(some 37), (.move (.tmp 11)), none, []⟩,
 ⟨(some 38), (.move (.tmp 2)), none, []⟩,
 ⟨(some 39), (.build [(.sc (.int .i64 0)), (.sc (.int .i64 0)), (.sc (.int .i64 0)), .nils, .nils, .nils, .nils] [(0, 1, (.tmp 37)), (1, 1, (.tmp 38))]), none, []⟩,
 ⟨(some 40), (.move (.tmp 14)), none, []⟩,
 ⟨(some 41), (.move (.tmp 3)), none, []⟩,
 ⟨(some 42), (.callF 12 [(.tmp 36), (.tmp 39), (.tmp 40), (.tmp 41)]), none, []⟩,
 ⟨(some 43), (.extract (.tmp 42) 0), none, []⟩,
 ⟨(some 44), (.extract (.tmp 42) 1), none, []⟩,
 ⟨(some 8), (.move (.tmp 43)), none, []⟩,
 ⟨(some 9), (.move (.tmp 44)), none, []⟩] false [8, 9])
 .ret))))))))
-- simp set: ac71
theorem isF71 : IsFunc Try.prog 71 4 ac71 [.tmp 8, .tmp 9] := isFunc_of _ [(0, [0, 1, 2, 3]), (1, [0, 1, 2, 3, 16]), (2, [8, 9]), (3, [0, 1, 2, 3, 10]), (4, [0, 1, 2, 3, 10, 11, 13]), (5, [0, 1, 2, 3, 10, 11, 27]), (6, [8, 9]), (7, [0, 1, 2, 3, 11, 14]), (8, [0, 2, 3, 11, 14]), (9, [8, 9])] Try.func71 (by kernel_rfl)
/-- (*waymark/walk.packet).end; loop heads: [] -/
def op72_22 : List AOper := [
 ⟨(some 22), (.move (.tmp 0)), none, []⟩,
 ⟨(some 23), (.nilCheck (.tmp 22)), none, [0]⟩,
 ⟨(some 24), (.fieldAddr 1 (.tmp 23)), none, [1]⟩,
 ⟨(some 25), (.load true 2 (.tmp 24)), none, [2]⟩,
 ⟨(some 26), (.move (.tmp 0)), none, []⟩,
 ⟨(some 27), (.nilCheck (.tmp 26)), none, [4]⟩,
 ⟨(some 28), (.fieldAddr 3 (.tmp 27)), none, [5]⟩,
 ⟨(some 29), (.load false 1 (.tmp 28)), none, [6]⟩,
 ⟨(some 30), (.indexAddrS 2 (.tmp 29) (.const (.int .i64 0))), none, [7]⟩,
 ⟨(some 31), (.fieldAddr 1 (.tmp 30)), none, [8]⟩,
 ⟨(some 32), (.load false 1 (.tmp 31)), none, [9]⟩,
 ⟨(some 33), (.callF 63 [(.tmp 25), (.tmp 32)]), none, [3, 10]⟩,
 ⟨(some 21), (.move (.tmp 33)), none, [11]⟩,
 ⟨(some 34), (.extract (.tmp 21) 0), none, [12]⟩,
 ⟨(some 35), (.extract (.tmp 21) 1), none, [12]⟩,
 ⟨(some 36), (.extract (.tmp 21) 2), none, [12]⟩,
 ⟨(some 3), (.move (.tmp 34)), none, [13, 11, 0, 1, 2, 3, 4, 5, 6, 7, 8, 9, 10, 11, 12, 13]⟩,
 ⟨(some 4), (.move (.tmp 35)), none, [14, 16, 0, 1, 2, 3, 4, 5, 6, 7, 8, 9, 10, 11, 12, 13, 14, 16]⟩,
 ⟨(some 5), (.move (.tmp 36)), none, [15, 17, 0, 1, 2, 3, 4, 5, 6, 7, 8, 9, 10, 11, 12, 13, 14, 15, 16, 17]⟩]
@[go_sem ↓] theorem op72_22_run {K : AExit → Fr → Store → Prop} {fr : Fr} {σ : Store} : wp Try.prog (.reg op72_22 true [4]) K fr σ = wpOpsD Try.prog (Kreg [4] K) op72_22 (Fr.get fr) σ := wp_draw (by kernel_rfl)
def ac72 : ACode :=
 (.seq
 (.reg [
 ⟨(some 2), (.move (.const (.int .i64 0))), none, []⟩] false [0])
 (.seq
 (.seq
 (.reg [
 ⟨(some 6), (.move (.tmp 0)), none, []⟩,
 ⟨(some 7), (.nilCheck (.tmp 6)), none, []⟩,
 ⟨(some 8), (.fieldAddr 3 (.tmp 7)), none, []⟩,
 ⟨(some 9), (.load false 1 (.tmp 8)), none, []⟩,
 ⟨(some 10), (.indexAddrS 2 (.tmp 9) (.const (.int .i64 0))), none, []⟩,
 ⟨(some 11), (.fieldAddr 0 (.tmp 10)), none, []⟩,
 ⟨(some 12), (.load false 1 (.tmp 11)), none, []⟩,
 ⟨(some 13), (.un .not (.tmp 12)), none, []⟩] false [0, 13])
 (.cond (.tmp 13)
 (.seq
 (.reg [
 ⟨(some 14), (.move (.tmp 0)), none, []⟩,
 ⟨(some 15), (.nilCheck (.tmp 14)), none, []⟩,
 ⟨(some 16), (.fieldAddr 3 (.tmp 15)), none, []⟩,
 ⟨(some 17), (.load false 1 (.tmp 16)), none, []⟩,
 ⟨(some 18), (.indexAddrS 2 (.tmp 17) (.const (.int .i64 0))), none, []⟩,
 ⟨(some 19), (.fieldAddr 1 (.tmp 18)), none, []⟩,
 ⟨(some 20), (.load false 1 (.tmp 19)), none, []⟩,
 ⟨(some 2), (.move (.tmp 20)), none, []⟩] false [2])
 .ret)
 .skip))
 (.seq
 (.reg op72_22 true [4])
 (.seq
 (.reg [
 ⟨(some 37), (.move (.tmp 4)), none, []⟩,
 ⟨(some 2), (.move (.tmp 37)), none, []⟩] false [2])
 .ret))))
-- simp set: ac72, op72_22
theorem isF72 : IsFunc Try.prog 72 1 ac72 [.tmp 2] := isFunc_of _ [(0, [0]), (1, [0, 13]), (2, [2]), (3, [4]), (4, [2])] Try.func72 (by kernel_rfl)
/-- slices.Concat[[]waymark/api.Seg,waymark/api.Seg]; loop heads: [[0, 3, 9, 10, 11], [6, 25, 26, 27]] -/
def ac73 : ACode :=
 (.seq
 (.reg [
 ⟨(some 2), (.move (.const (.slice none 0 0))), none, []⟩] false [0])
 (.seq
 (.reg [
 ⟨(some 3), (.move (.const (.int .i64 0))), none, []⟩] false [0, 3])
 (.seq
 (.seq
 (.reg [
 ⟨(some 9), (.move (.tmp 0)), none, []⟩,
 ⟨(some 10), (.lenS (.tmp 9)), none, []⟩,
 ⟨(some 11), (.move (.const (.int .i64 0))), none, []⟩] false [0, 3, 9, 10, 11])
 (.block 0
 (.loop
 (.seq
 (.reg [
 ⟨(some 12), (.bin .lss (.tmp 11) (.tmp 10)), none, []⟩] false [0, 3, 9, 10, 11, 12])
 (.seq
 (.cond (.tmp 12)
 .skip
 (.exit 0))
 (.seq
 (.block 1
 (.seq
 (.reg [
 ⟨(some 13), (.indexAddrS 1 (.tmp 9) (.tmp 11)), none, []⟩,
 ⟨(some 14), (.load false 1 (.tmp 13)), none, []⟩,
 ⟨(some 5), (.move (.tmp 14)), none, []⟩] false [0, 3, 5, 9, 10, 11])
 (.seq
 (.reg [
 ⟨(some 15), (.move (.tmp 3)), none, []⟩,
 ⟨(some 16), (.move (.tmp 5)), none, []⟩,
 ⟨(some 17), (.lenS (.tmp 16)), none, []⟩,
 ⟨(some 18), (.bin .add (.tmp 15) (.tmp 17)), none, []⟩,
 ⟨(some 3), (.move (.tmp 18)), none, []⟩] false [0, 3, 9, 10, 11])
 (.seq
 (.reg [
 ⟨(some 19), (.move (.tmp 3)), none, []⟩,
 ⟨(some 20), (.bin .lss (.tmp 19) (.const (.int .i64 0))), none, []⟩] false [0, 3, 9, 10, 11, 20])
 (.cond (.tmp 20)
 (.reg [
 ⟨(some 21), .bad, none, []⟩,
 ⟨none, .bad, none, []⟩] false [0, 3, 9, 10, 11])
 .skip)))))
 (.reg [
 ⟨(some 22), (.bin .add (.tmp 11) (.const (.int .i64 1))), none, []⟩,
 ⟨(some 11), (.move (.tmp 22)), none, []⟩] false [0, 3, 9, 10, 11])))))))
 (.seq
 (.reg [
 ⟨(some 23), (.move (.tmp 3)), none, []⟩,
 ⟨(some 24), (.callF 90 [(.const (.slice none 0 0)), (.tmp 23)]), none, []⟩,
 ⟨(some 6), (.move (.tmp 24)), none, []⟩] false [0, 6])
 (.seq
 (.seq
 (.reg [
 ⟨(some 25), (.move (.tmp 0)), none, []⟩,
 ⟨(some 26), (.lenS (.tmp 25)), none, []⟩,
 ⟨(some 27), (.move (.const (.int .i64 0))), none, []⟩] false [6, 25, 26, 27])
 (.block 2
 (.loop
 (.seq
 (.reg [
 ⟨(some 28), (.bin .lss (.tmp 27) (.tmp 26)), none, []⟩] false [6, 25, 26, 27, 28])
 (.seq
 (.cond (.tmp 28)
 .skip
 (.exit 2))
 (.seq
 (.block 3
 (.seq
 (.reg [
 ⟨(some 29), (.indexAddrS 1 (.tmp 25) (.tmp 27)), none, []⟩,
 ⟨(some 30), (.load false 1 (.tmp 29)), none, []⟩,
 ⟨(some 8), (.move (.tmp 30)), none, []⟩] false [6, 8, 25, 26, 27])
 (.reg [
 ⟨(some 31), (.move (.tmp 6)), none, []⟩,
 ⟨(some 32), (.move (.tmp 8)), none, []⟩,
 ⟨(some 33), (.append 2 16 [(.sc (.bool false)), (.sc (.int .i64 0))] (.tmp 31) (.tmp 32)), none, []⟩,
 ⟨(some 6), (.move (.tmp 33)), none, []⟩] false [6, 25, 26, 27])))
 (.reg [
 ⟨(some 34), (.bin .add (.tmp 27) (.const (.int .i64 1))), none, []⟩,
 ⟨(some 27), (.move (.tmp 34)), none, []⟩] false [6, 25, 26, 27])))))))
 (.seq
 (.reg [
 ⟨(some 35), (.move (.tmp 6)), none, []⟩,
 ⟨(some 2), (.move (.tmp 35)), none, []⟩] false [2])
 .ret))))))
-- simp set: ac73
theorem isF73 : IsFunc Try.prog 73 1 ac73 [.tmp 2] := isFunc_of _ [(0, [0]), (1, [0, 3]), (2, [0, 3, 9, 10, 11]), (3, [0, 3, 9, 10, 11, 12]), (4, [0, 3, 5, 9, 10, 11]), (5, [0, 3, 9, 10, 11]), (6, [0, 3, 9, 10, 11, 20]), (7, [0, 3, 9, 10, 11]), (8, [0, 3, 9, 10, 11]), (9, [0, 6]), (10, [6, 25, 26, 27]), (11, [6, 25, 26, 27, 28]), (12, [6, 8, 25, 26, 27]), (13, [6, 25, 26, 27]), (14, [6, 25, 26, 27]), (15, [2])] Try.func73 (by kernel_rfl)
/-- waymark/waymarkref1.RightWant; loop heads: [[2, 3, 7, 8], [2, 3, 7, 9], [2, 3, 10], [3, 11]] -/
def op74_39 : List AOper := [
 ⟨(some 39), (.move (.tmp 7)), none, []⟩,
 ⟨(some 40), (.move (.tmp 39)), none, [0]⟩,
 ⟨(some 41), (.load true 2 (.tmp 2)), (some (40, false)), [1]⟩,
 ⟨(some 42), (.fieldAddr 3 (.tmp 3)), (some (40, false)), [1]⟩,
 ⟨(some 43), (.load false 1 (.tmp 42)), (some (40, false)), [3, 1]⟩,
 ⟨(some 44), (.move (.tmp 8)), (some (40, false)), [1]⟩,
 ⟨(some 45), (.indexAddrS 1 (.tmp 43) (.tmp 44)), (some (40, false)), [4, 5, 1]⟩,
 ⟨(some 46), (.load false 1 (.tmp 45)), (some (40, false)), [6, 1]⟩,
 ⟨(some 47), (.callF 64 [(.tmp 41), (.tmp 46)]), (some (40, false)), [2, 7, 1, 1]⟩,
 ⟨(some 48), (.un .not (.tmp 47)), (some (40, false)), [8, 1]⟩,
 ⟨(some 49), (.pick (.tmp 40) (.const (.bool true)) (.tmp 48)), none, [1, 9]⟩,
 ⟨(some 7), (.move (.tmp 49)), none, [10, 8, 0, 1, 2, 3, 4, 5, 6, 7, 8, 9, 10]⟩]
@[go_sem ↓] theorem op74_39_run {K : AExit → Fr → Store → Prop} {fr : Fr} {σ : Store} : wp Try.prog (.reg op74_39 true [2, 3, 7, 8]) K fr σ = wpOpsD Try.prog (Kreg [2, 3, 7, 8] K) op74_39 (Fr.get fr) σ := wp_draw (by kernel_rfl)
def op74_57 : List AOper := [
 ⟨(some 57), (.move (.tmp 7)), none, []⟩,
 ⟨(some 58), (.move (.tmp 57)), none, [0]⟩,
 ⟨(some 59), (.load true 2 (.tmp 2)), (some (58, false)), [1]⟩,
 ⟨(some 60), (.fieldAddr 4 (.tmp 3)), (some (58, false)), [1]⟩,
 ⟨(some 61), (.load false 1 (.tmp 60)), (some (58, false)), [3, 1]⟩,
 ⟨(some 62), (.move (.tmp 9)), (some (58, false)), [1]⟩,
 ⟨(some 63), (.indexAddrS 1 (.tmp 61) (.tmp 62)), (some (58, false)), [4, 5, 1]⟩,
 ⟨(some 64), (.load false 1 (.tmp 63)), (some (58, false)), [6, 1]⟩,
 ⟨(some 65), (.callF 64 [(.tmp 59), (.tmp 64)]), (some (58, false)), [2, 7, 1, 1]⟩,
 ⟨(some 66), (.un .not (.tmp 65)), (some (58, false)), [8, 1]⟩,
 ⟨(some 67), (.pick (.tmp 58) (.const (.bool true)) (.tmp 66)), none, [1, 9]⟩,
 ⟨(some 7), (.move (.tmp 67)), none, [10, 8, 0, 1, 2, 3, 4, 5, 6, 7, 8, 9, 10]⟩]
@[go_sem ↓] theorem op74_57_run {K : AExit → Fr → Store → Prop} {fr : Fr} {σ : Store} : wp Try.prog (.reg op74_57 true [2, 3, 7, 9]) K fr σ = wpOpsD Try.prog (Kreg [2, 3, 7, 9] K) op74_57 (Fr.get fr) σ := wp_draw (by kernel_rfl)
def op74_76 : List AOper := [
 ⟨(some 76), (.fieldAddr 5 (.tmp 3)), none, []⟩,
 ⟨(some 77), (.load false 1 (.tmp 76)), none, [0]⟩,
 ⟨(some 78), (.move (.tmp 10)), none, []⟩,
 ⟨(some 79), (.indexAddrS 1 (.tmp 77) (.tmp 78)), none, [1, 2]⟩,
 ⟨(some 80), (.load false 1 (.tmp 79)), none, [3]⟩,
 ⟨(some 81), (.bin .lss (.tmp 80) (.const (.int .i64 0))), none, [4]⟩,
 ⟨(some 82), (.move (.tmp 81)), none, [5]⟩,
 ⟨(some 83), (.fieldAddr 5 (.tmp 3)), (some (82, false)), [6]⟩,
 ⟨(some 84), (.load false 1 (.tmp 83)), (some (82, false)), [7, 6]⟩,
 ⟨(some 85), (.move (.tmp 10)), (some (82, false)), [6]⟩,
 ⟨(some 86), (.indexAddrS 1 (.tmp 84) (.tmp 85)), (some (82, false)), [8, 9, 6]⟩,
 ⟨(some 87), (.load false 1 (.tmp 86)), (some (82, false)), [10, 6]⟩,
 ⟨(some 88), (.fieldAddr 1 (.tmp 2)), (some (82, false)), [6]⟩,
 ⟨(some 89), (.load false 1 (.tmp 88)), (some (82, false)), [12, 6]⟩,
 ⟨(some 90), (.lenS (.tmp 89)), (some (82, false)), [13, 6]⟩,
 ⟨(some 91), (.bin .geq (.tmp 87) (.tmp 90)), (some (82, false)), [11, 14, 6]⟩,
 ⟨(some 92), (.pick (.tmp 82) (.const (.bool true)) (.tmp 91)), none, [6, 15]⟩]
@[go_sem ↓] theorem op74_76_run {K : AExit → Fr → Store → Prop} {fr : Fr} {σ : Store} : wp Try.prog (.reg op74_76 true [2, 3, 10, 92]) K fr σ = wpOpsD Try.prog (Kreg [2, 3, 10, 92] K) op74_76 (Fr.get fr) σ := wp_draw (by kernel_rfl)
def ac74 : ACode :=
 (.seq
 (.reg [
 ⟨(some 2), (.box (.tmp 0)), none, []⟩,
 ⟨(some 3), (.box (.tmp 1)), none, []⟩,
 ⟨(some 4), (.move (.const (.int .i64 0))), none, []⟩] false [2, 3])
 (.seq
 (.reg [
 ⟨(some 13), (.load true 2 (.tmp 2)), none, []⟩,
 ⟨(some 14), (.callF 39 [(.tmp 13)]), none, []⟩,
 ⟨(some 12), (.move (.tmp 14)), none, []⟩,
 ⟨(some 15), (.extract (.tmp 12) 0), none, []⟩,
 ⟨(some 16), (.extract (.tmp 12) 1), none, []⟩,
 ⟨(some 5), (.move (.tmp 15)), none, []⟩,
 ⟨(some 6), (.move (.tmp 16)), none, []⟩] false [2, 3, 6])
 (.seq
 (.seq
 (.reg [
 ⟨(some 17), (.move (.tmp 6)), none, []⟩,
 ⟨(some 18), (.bin .neq (.tmp 17) (.const (.int .i64 0))), none, []⟩] false [2, 3, 6, 18])
 (.cond (.tmp 18)
 (.seq
 (.reg [
 ⟨(some 19), (.move (.tmp 6)), none, []⟩,
 ⟨(some 4), (.move (.tmp 19)), none, []⟩] false [4])
 .ret)
 .skip))
 (.seq
 (.reg [
 ⟨(some 20), (.load true 2 (.tmp 2)), none, []⟩,
 ⟨(some 21), (.fieldAddr 0 (.tmp 3)), none, []⟩,
 ⟨(some 22), (.load false 1 (.tmp 21)), none, []⟩,
 ⟨(some 23), (.callF 64 [(.tmp 20), (.tmp 22)]), none, []⟩,
 ⟨(some 24), (.un .not (.tmp 23)), none, []⟩,
 ⟨(some 25), (.move (.tmp 24)), none, []⟩,
 ⟨(some 26), (.load true 2 (.tmp 2)), (some (25, false)), []⟩,
 ⟨(some 27), (.fieldAddr 1 (.tmp 3)), (some (25, false)), []⟩,
 ⟨(some 28), (.load false 1 (.tmp 27)), (some (25, false)), []⟩,
 ⟨(some 29), (.callF 64 [(.tmp 26), (.tmp 28)]), (some (25, false)), []⟩,
 ⟨(some 30), (.un .not (.tmp 29)), (some (25, false)), []⟩,
 ⟨(some 31), (.pick (.tmp 25) (.const (.bool true)) (.tmp 30)), none, []⟩,
 ⟨(some 7), (.move (.tmp 31)), none, []⟩] false [2, 3, 7])
 (.seq
 (.seq
 (.reg [
 ⟨(some 8), (.move (.const (.int .i64 0))), none, []⟩] false [2, 3, 7, 8])
 (.block 0
 (.loop
 (.seq
 (.seq
 (.reg [
 ⟨(some 32), (.move (.tmp 8)), none, []⟩,
 ⟨(some 33), (.fieldAddr 3 (.tmp 3)), none, []⟩,
 ⟨(some 34), (.load false 1 (.tmp 33)), none, []⟩,
 ⟨(some 35), (.lenS (.tmp 34)), none, []⟩,
 ⟨(some 36), (.bin .lss (.tmp 32) (.tmp 35)), none, []⟩] false [2, 3, 7, 8, 36])
 (.cond (.tmp 36)
 .skip
 (.exit 0)))
 (.seq
 (.block 1
 (.reg op74_39 true [2, 3, 7, 8]))
 (.reg [
 ⟨(some 37), (.move (.tmp 8)), none, []⟩,
 ⟨(some 38), (.bin .add (.tmp 37) (.const (.int .i64 1))), none, []⟩,
 ⟨(some 8), (.move (.tmp 38)), none, []⟩] false [2, 3, 7, 8]))))))
 (.seq
 (.seq
 (.reg [
 ⟨(some 9), (.move (.const (.int .i64 0))), none, []⟩] false [2, 3, 7, 9])
 (.block 2
 (.loop
 (.seq
 (.seq
 (.reg [
 ⟨(some 50), (.move (.tmp 9)), none, []⟩,
 ⟨(some 51), (.fieldAddr 4 (.tmp 3)), none, []⟩,
 ⟨(some 52), (.load false 1 (.tmp 51)), none, []⟩,
 ⟨(some 53), (.lenS (.tmp 52)), none, []⟩,
 ⟨(some 54), (.bin .lss (.tmp 50) (.tmp 53)), none, []⟩] false [2, 3, 7, 9, 54])
 (.cond (.tmp 54)
 .skip
 (.exit 2)))
 (.seq
 (.block 3
 (.reg op74_57 true [2, 3, 7, 9]))
 (.reg [
 ⟨(some 55), (.move (.tmp 9)), none, []⟩,
 ⟨(some 56), (.bin .add (.tmp 55) (.const (.int .i64 1))), none, []⟩,
 ⟨(some 9), (.move (.tmp 56)), none, []⟩] false [2, 3, 7, 9]))))))
 (.seq
 (.seq
 (.reg [
 ⟨(some 68), (.move (.tmp 7)), none, []⟩] false [2, 3, 68])
 (.cond (.tmp 68)
 (.seq
 (.reg [
 ⟨(some 4), (.move (.const (.int .i64 4))), none, []⟩] false [4])
 .ret)
 .skip))
 (.seq
 (.seq
 (.reg [
 ⟨(some 10), (.move (.const (.int .i64 0))), none, []⟩] false [2, 3, 10])
 (.block 4
 (.loop
 (.seq
 (.seq
 (.reg [
 ⟨(some 69), (.move (.tmp 10)), none, []⟩,
 ⟨(some 70), (.fieldAddr 5 (.tmp 3)), none, []⟩,
 ⟨(some 71), (.load false 1 (.tmp 70)), none, []⟩,
 ⟨(some 72), (.lenS (.tmp 71)), none, []⟩,
 ⟨(some 73), (.bin .lss (.tmp 69) (.tmp 72)), none, []⟩] false [2, 3, 10, 73])
 (.cond (.tmp 73)
 .skip
 (.exit 4)))
 (.seq
 (.block 5
 (.seq
 (.reg op74_76 true [2, 3, 10, 92])
 (.cond (.tmp 92)
 (.seq
 (.reg [
 ⟨(some 4), (.move (.const (.int .i64 5))), none, []⟩] false [4])
 .ret)
 .skip)))
 (.reg [
 ⟨(some 74), (.move (.tmp 10)), none, []⟩,
 ⟨(some 75), (.bin .add (.tmp 74) (.const (.int .i64 1))), none, []⟩,
 ⟨(some 10), (.move (.tmp 75)), none, []⟩] false [2, 3, 10]))))))
 (.seq
 (.seq
 (.reg [
 ⟨(some 11), (.move (.const (.int .i64 0))), none, []⟩] false [3, 11])
 (.block 6
 (.loop
 (.seq
 (.seq
 (.reg [
 ⟨(some 93), (.move (.tmp 11)), none, []⟩,
 ⟨(some 94), (.fieldAddr 6 (.tmp 3)), none, []⟩,
 ⟨(some 95), (.load false 1 (.tmp 94)), none, []⟩,
 ⟨(some 96), (.lenS (.tmp 95)), none, []⟩,
 ⟨(some 97), (.bin .lss (.tmp 93) (.tmp 96)), none, []⟩] false [3, 11, 97])
 (.cond (.tmp 97)
 .skip
 (.exit 6)))
 (.seq
 (.block 7
 (.seq
 (.reg [
 ⟨(some 100), (.fieldAddr 6 (.tmp 3)), none, []⟩,
 ⟨(some 101), (.load false 1 (.tmp 100)), none, []⟩,
 ⟨(some 102), (.move (.tmp 11)), none, []⟩,
 ⟨(some 103), (.indexAddrS 1 (.tmp 101) (.tmp 102)), none, []⟩,
 ⟨(some 104), (.load false 1 (.tmp 103)), none, []⟩,
 ⟨(some 105), (.bin .lss (.tmp 104) (.const (.int .i64 0))), none, []⟩,
 ⟨(some 106), (.move (.tmp 105)), none, []⟩,
 ⟨(some 107), (.fieldAddr 6 (.tmp 3)), (some (106, false)), []⟩,
 ⟨(some 108), (.load false 1 (.tmp 107)), (some (106, false)), []⟩,
 ⟨(some 109), (.move (.tmp 11)), (some (106, false)), []⟩,
 ⟨(some 110), (.indexAddrS 1 (.tmp 108) (.tmp 109)), (some (106, false)), []⟩,
 ⟨(some 111), (.load false 1 (.tmp 110)), (some (106, false)), []⟩,
 ⟨(some 112), (.bin .gtr (.tmp 111) (.const (.int .i64 62))), (some (106, false)), []⟩,
 ⟨(some 113), (.pick (.tmp 106) (.const (.bool true)) (.tmp 112)), none, []⟩] false [3, 11, 113])
 (.cond (.tmp 113)
 (.seq
 (.reg [
 ⟨(some 4), (.move (.const (.int .i64 1))), none, []⟩] false [4])
 .ret)
 .skip)))
 (.reg [
 ⟨(some 98), (.move (.tmp 11)), none, []⟩,
 ⟨(some 99), (.bin .add (.tmp 98) (.const (.int .i64 1))), none, []⟩,
 ⟨(some 11), (.move (.tmp 99)), none, []⟩] false [3, 11]))))))
 (.seq
 (.block 8
 (.seq
 (.reg [
 ⟨(some 115), (.fieldAddr 2 (.tmp 3)), none, []⟩,
 ⟨(some 116), (.load false 1 (.tmp 115)), none, []⟩,
 ⟨(some 117), (.bin .lss (.tmp 116) (.const (.int .i64 0))), none, []⟩,
 ⟨(some 114), (.move (.tmp 117)), none, []⟩] false [3, 114])
 (.cond (.tmp 114)
 (.seq
 (.reg [
 ⟨(some 4), (.move (.const (.int .i64 1))), none, []⟩] false [4])
 .ret)
 (.seq
 (.reg [
 ⟨(some 119), (.fieldAddr 3 (.tmp 3)), none, []⟩,
 ⟨(some 120), (.load false 1 (.tmp 119)), none, []⟩,
 ⟨(some 121), (.lenS (.tmp 120)), none, []⟩,
 ⟨(some 122), (.bin .gtr (.tmp 121) (.const (.int .i64 4))), none, []⟩,
 ⟨(some 118), (.move (.tmp 122)), none, []⟩] false [118])
 (.cond (.tmp 118)
 (.seq
 (.reg [
 ⟨(some 4), (.move (.const (.int .i64 6))), none, []⟩] false [4])
 .ret)
 .skip)))))
 (.seq
 (.reg [
 ⟨(some 4), (.move (.const (.int .i64 0))), none, []⟩] false [4])
 .ret)))))))))))
-- simp set: ac74, op74_39, op74_57, op74_76
theorem isF74 : IsFunc Try.prog 74 2 ac74 [.tmp 4] := isFunc_of _ [(0, [2, 3]), (1, [2, 3, 6]), (2, [2, 3, 6, 18]), (3, [4]), (4, [2, 3, 7]), (5, [2, 3, 7, 8]), (6, [2, 3, 7, 8, 36]), (8, [2, 3, 7, 8]), (7, [2, 3, 7, 8]), (9, [2, 3, 7, 9]), (10, [2, 3, 7, 9, 54]), (12, [2, 3, 7, 9]), (11, [2, 3, 7, 9]), (13, [2, 3, 68]), (14, [4]), (15, [2, 3, 10]), (16, [2, 3, 10, 73]), (18, [2, 3, 10, 92]), (19, [4]), (17, [2, 3, 10]), (20, [3, 11]), (21, [3, 11, 97]), (23, [3, 11, 113]), (24, [4]), (22, [3, 11]), (25, [3, 114]), (26, [4]), (27, [118]), (28, [4]), (29, [4])] Try.func74 (by kernel_rfl)
/-- waymark/waymarkref1.has; loop heads: [[0, 1, 5]] -/
def ac75 : ACode :=
 (.seq
 (.reg [
 ⟨(some 4), (.move (.const (.bool false))), none, []⟩] false [0, 1])
 (.seq
 (.seq
 (.reg [
 ⟨(some 5), (.move (.const (.int .i64 0))), none, []⟩] false [0, 1, 5])
 (.block 0
 (.loop
 (.seq
 (.seq
 (.reg [
 ⟨(some 6), (.move (.tmp 5)), none, []⟩,
 ⟨(some 7), (.move (.tmp 0)), none, []⟩,
 ⟨(some 8), (.lenS (.tmp 7)), none, []⟩,
 ⟨(some 9), (.bin .lss (.tmp 6) (.tmp 8)), none, []⟩] false [0, 1, 5, 9])
 (.cond (.tmp 9)
 .skip
 (.exit 0)))
 (.seq
 (.block 1
 (.seq
 (.reg [
 ⟨(some 12), (.move (.tmp 0)), none, []⟩,
 ⟨(some 13), (.move (.tmp 5)), none, []⟩,
 ⟨(some 14), (.indexAddrS 1 (.tmp 12) (.tmp 13)), none, []⟩,
 ⟨(some 15), (.load false 1 (.tmp 14)), none, []⟩,
 ⟨(some 16), (.move (.tmp 1)), none, []⟩,
 ⟨(some 17), (.bin .eql (.tmp 15) (.tmp 16)), none, []⟩] false [0, 1, 5, 17])
 (.cond (.tmp 17)
 (.seq
 (.reg [
 ⟨(some 4), (.move (.const (.bool true))), none, []⟩] false [4])
 .ret)
 .skip)))
 (.reg [
 ⟨(some 10), (.move (.tmp 5)), none, []⟩,
 ⟨(some 11), (.bin .add (.tmp 10) (.const (.int .i64 1))), none, []⟩,
 ⟨(some 5), (.move (.tmp 11)), none, []⟩] false [0, 1, 5]))))))
 (.seq
 (.reg [
 ⟨(some 4), (.move (.const (.bool false))), none, []⟩] false [4])
 .ret)))
-- simp set: ac75
theorem isF75 : IsFunc Try.prog 75 2 ac75 [.tmp 4] := isFunc_of _ [(0, [0, 1]), (1, [0, 1, 5]), (2, [0, 1, 5, 9]), (4, [0, 1, 5, 17]), (5, [4]), (3, [0, 1, 5]), (6, [4])] Try.func75 (by kernel_rfl)
/-- waymark/waymarkref1.Out; loop heads: [[1, 2, 5, 6]] -/
def ac76 : ACode :=
 (.seq
 (.reg [
 ⟨(some 2), (.box (.tmp 0)), none, []⟩,
 ⟨(some 4), (.move (.const (.slice none 0 0))), none, []⟩] false [1, 2])
 (.seq
 (.reg [
 ⟨(some 5), (.move (.const (.slice none 0 0))), none, []⟩] false [1, 2, 5])
 (.seq
 (.seq
 (.reg [
 ⟨(some 6), (.move (.const (.int .i64 0))), none, []⟩] false [1, 2, 5, 6])
 (.block 0
 (.loop
 (.seq
 (.seq
 (.reg [
 ⟨(some 10), (.move (.tmp 6)), none, []⟩,
 ⟨(some 11), (.fieldAddr 1 (.tmp 2)), none, []⟩,
 ⟨(some 12), (.load false 1 (.tmp 11)), none, []⟩,
 ⟨(some 13), (.lenS (.tmp 12)), none, []⟩,
 ⟨(some 14), (.bin .mul (.const (.int .i64 2)) (.tmp 13)), none, []⟩,
 ⟨(some 15), (.bin .lss (.tmp 10) (.tmp 14)), none, []⟩] false [1, 2, 5, 6, 15])
 (.cond (.tmp 15)
 .skip
 (.exit 0)))
 (.seq
 (.block 1
 (.seq
 (.reg [
 ⟨(some 19), (.load true 2 (.tmp 2)), none, []⟩,
 ⟨(some 20), (.move (.tmp 6)), none, []⟩,
 ⟨(some 21), (.callF 16 [(.tmp 19), (.tmp 20)]), none, []⟩,
 ⟨(some 18), (.move (.tmp 21)), none, []⟩,
 ⟨(some 22), (.extract (.tmp 18) 0), none, []⟩,
 ⟨(some 23), (.extract (.tmp 18) 1), none, []⟩,
 ⟨(some 24), (.extract (.tmp 18) 2), none, []⟩,
 ⟨(some 7), (.move (.tmp 22)), none, []⟩,
 ⟨(some 8), (.move (.tmp 23)), none, []⟩,
 ⟨(some 9), (.move (.tmp 24)), none, []⟩] false [1, 2, 5, 6, 7])
 (.seq
 (.reg [
 ⟨(some 25), (.move (.tmp 7)), none, []⟩,
 ⟨(some 26), (.move (.tmp 1)), none, []⟩,
 ⟨(some 27), (.bin .eql (.tmp 25) (.tmp 26)), none, []⟩] false [1, 2, 5, 6, 27])
 (.cond (.tmp 27)
 (.reg [
 ⟨(some 28), (.move (.tmp 5)), none, []⟩,
 ⟨(some 29), (.move (.tmp 6)), none, []⟩,
 ⟨(some 30), (.buildSlice 1 1 [(.sc (.int .i64 0))] [(0, (.tmp 29))]), none, []⟩,
 ⟨(some 31), (.append 1 8 [(.sc (.int .i64 0))] (.tmp 28) (.tmp 30)), none, []⟩,
 ⟨(some 5), (.move (.tmp 31)), none, []⟩] false [1, 2, 5, 6])
 .skip))))
 (.reg [
 ⟨(some 16), (.move (.tmp 6)), none, []⟩,
 ⟨(some 17), (.bin .add (.tmp 16) (.const (.int .i64 1))), none, []⟩,
 ⟨(some 6), (.move (.tmp 17)), none, []⟩] false [1, 2, 5, 6]))))))
 (.seq
 (.reg [
 ⟨(some 32), (.move (.tmp 5)), none, []⟩,
 ⟨(some 4), (.move (.tmp 32)), none, []⟩] false [4])
 .ret))))
-- simp set: ac76
theorem isF76 : IsFunc Try.prog 76 2 ac76 [.tmp 4] := isFunc_of _ [(0, [1, 2]), (1, [1, 2, 5]), (2, [1, 2, 5, 6]), (3, [1, 2, 5, 6, 15]), (5, [1, 2, 5, 6, 7]), (6, [1, 2, 5, 6, 27]), (7, [1, 2, 5, 6]), (4, [1, 2, 5, 6]), (8, [4])] Try.func76 (by kernel_rfl)
/-- (*waymark/heap.Heap).Push; loop heads: [[0, 6]] -/
def op77_33 : List AOper := [
 ⟨(some 33), (.move (.tmp 0)), none, []⟩,
 ⟨(some 34), (.nilCheck (.tmp 33)), none, [0]⟩,
 ⟨(some 35), (.fieldAddr 0 (.tmp 34)), none, [1]⟩,
 ⟨(some 36), (.load false 1 (.tmp 35)), none, [2]⟩,
 ⟨(some 37), (.move (.tmp 6)), none, []⟩,
 ⟨(some 38), (.indexAddrS 2 (.tmp 36) (.tmp 37)), none, [3, 4]⟩,
 ⟨(some 39), (.load true 2 (.tmp 38)), none, [5]⟩,
 ⟨(some 40), (.move (.tmp 0)), none, []⟩,
 ⟨(some 41), (.nilCheck (.tmp 40)), none, [7]⟩,
 ⟨(some 42), (.fieldAddr 0 (.tmp 41)), none, [8]⟩,
 ⟨(some 43), (.load false 1 (.tmp 42)), none, [9]⟩,
 ⟨(some 44), (.move (.tmp 7)), none, []⟩,
 ⟨(some 45), (.indexAddrS 2 (.tmp 43) (.tmp 44)), none, [10, 11]⟩,
 ⟨(some 46), (.load true 2 (.tmp 45)), none, [12]⟩,
 ⟨(some 47), (.callF 91 [(.tmp 39), (.tmp 46)]), none, [6, 13]⟩,
 ⟨(some 48), (.un .not (.tmp 47)), none, [14]⟩]
@[go_sem ↓] theorem op77_33_run {K : AExit → Fr → Store → Prop} {fr : Fr} {σ : Store} : wp Try.prog (.reg op77_33 true [0, 6, 7, 48]) K fr σ = wpOpsD Try.prog (Kreg [0, 6, 7, 48] K) op77_33 (Fr.get fr) σ := wp_draw (by kernel_rfl)
def op77_49 : List AOper := [
 ⟨(some 49), (.move (.tmp 0)), none, []⟩,
 ⟨(some 50), (.nilCheck (.tmp 49)), none, [0]⟩,
 ⟨(some 51), (.fieldAddr 0 (.tmp 50)), none, [1]⟩,
 ⟨(some 52), (.load false 1 (.tmp 51)), none, [2]⟩,
 ⟨(some 53), (.move (.tmp 6)), none, []⟩,
 ⟨(some 54), (.move (.tmp 0)), none, []⟩,
 ⟨(some 55), (.nilCheck (.tmp 54)), none, [5]⟩,
 ⟨(some 56), (.fieldAddr 0 (.tmp 55)), none, [6]⟩,
 ⟨(some 57), (.load false 1 (.tmp 56)), none, [7]⟩,
 ⟨(some 58), (.move (.tmp 7)), none, []⟩,
 ⟨(some 59), (.move (.tmp 0)), none, []⟩,
 ⟨(some 60), (.nilCheck (.tmp 59)), none, [10]⟩,
 ⟨(some 61), (.fieldAddr 0 (.tmp 60)), none, [11]⟩,
 ⟨(some 62), (.load false 1 (.tmp 61)), none, [12]⟩,
 ⟨(some 63), (.move (.tmp 7)), none, []⟩,
 ⟨(some 64), (.indexAddrS 2 (.tmp 62) (.tmp 63)), none, [13, 14]⟩,
 ⟨(some 65), (.load true 2 (.tmp 64)), none, [15]⟩,
 ⟨(some 66), (.move (.tmp 0)), none, []⟩,
 ⟨(some 67), (.nilCheck (.tmp 66)), none, [17]⟩,
 ⟨(some 68), (.fieldAddr 0 (.tmp 67)), none, [18]⟩,
 ⟨(some 69), (.load false 1 (.tmp 68)), none, [19]⟩,
 ⟨(some 70), (.move (.tmp 6)), none, []⟩,
 ⟨(some 71), (.indexAddrS 2 (.tmp 69) (.tmp 70)), none, [20, 21]⟩,
 ⟨(some 72), (.load true 2 (.tmp 71)), none, [22]⟩,
 ⟨(some 73), (.indexAddrS 2 (.tmp 52) (.tmp 53)), none, [3, 4, 0, 1, 2, 3, 4, 8, 10, 11, 12, 13, 14, 15, 16, 20, 23]⟩,
 ⟨none, (.store 2 (.tmp 73) (.tmp 65)), none, [24, 16, 0, 1, 2, 3, 4, 8, 10, 11, 12, 13, 14, 15, 16, 20, 23]⟩,
 ⟨(some 74), (.indexAddrS 2 (.tmp 57) (.tmp 58)), none, [8, 9, 0, 1, 2, 3, 4, 5, 6, 7, 8, 9, 10, 11, 12, 13, 14, 15, 16, 17, 18, 19, 20, 21, 22, 23, 24, 25]⟩,
 ⟨none, (.store 2 (.tmp 74) (.tmp 72)), none, [26, 23, 25, 0, 1, 2, 3, 4, 5, 6, 7, 8, 9, 10, 11, 12, 13, 14, 15, 16, 17, 18, 19, 20, 21, 22, 23, 24, 25]⟩]
@[go_sem ↓] theorem op77_49_run {K : AExit → Fr → Store → Prop} {fr : Fr} {σ : Store} : wp Try.prog (.reg op77_49 true [0, 7]) K fr σ = wpOpsD Try.prog (Kreg [0, 7] K) op77_49 (Fr.get fr) σ := wp_draw (by kernel_rfl)
def ac77 : ACode :=
 (.seq
 (.seq
 (.reg [
 ⟨(some 8), (.move (.tmp 0)), none, []⟩,
 ⟨(some 9), (.eqPtr false (.tmp 8) (.const (.pointer none))), none, []⟩] false [0, 1, 2, 9])
 (.cond (.tmp 9)
 .ret
 .skip))
 (.seq
 (.reg [
 ⟨(some 10), (.move (.tmp 0)), none, []⟩,
 ⟨(some 11), (.move (.tmp 0)), none, []⟩,
 ⟨(some 12), (.nilCheck (.tmp 11)), none, []⟩,
 ⟨(some 13), (.fieldAddr 0 (.tmp 12)), none, []⟩,
 ⟨(some 14), (.load false 1 (.tmp 13)), none, []⟩,
 ⟨(some 15), (.move (.tmp 1)), none, []⟩,
 ⟨(some 16), (.move (.tmp 2)), none, []⟩,
 ⟨(some 17), (.build [(.sc (.int .i64 0)), (.sc (.int .i64 0))] [(0, 1, (.tmp 15)), (1, 1, (.tmp 16))]), none, []⟩,
 ⟨(some 18), (.buildSlice 2 1 [(.sc (.int .i64 0)), (.sc (.int .i64 0))] [(0, (.tmp 17))]), none, []⟩,
 ⟨(some 19), (.append 2 16 [(.sc (.int .i64 0)), (.sc (.int .i64 0))] (.tmp 14) (.tmp 18)), none, []⟩,
 ⟨(some 20), (.nilCheck (.tmp 10)), none, []⟩,
 ⟨(some 21), (.fieldAddr 0 (.tmp 20)), none, []⟩,
 ⟨none, (.store 1 (.tmp 21) (.tmp 19)), none, []⟩] false [0])
 (.seq
 (.reg [
 ⟨(some 22), (.move (.tmp 0)), none, []⟩,
 ⟨(some 23), (.nilCheck (.tmp 22)), none, []⟩,
 ⟨(some 24), (.fieldAddr 0 (.tmp 23)), none, []⟩,
 ⟨(some 25), (.load false 1 (.tmp 24)), none, []⟩,
 ⟨(some 26), (.lenS (.tmp 25)), none, []⟩,
 ⟨(some 27), (.bin .sub (.tmp 26) (.const (.int .i64 1))), none, []⟩,
 ⟨(some 6), (.move (.tmp 27)), none, []⟩] false [0, 6])
 (.block 0
 (.loop
 (.seq
 (.seq
 (.reg [
 ⟨(some 28), (.move (.tmp 6)), none, []⟩,
 ⟨(some 29), (.bin .gtr (.tmp 28) (.const (.int .i64 0))), none, []⟩] false [0, 6, 29])
 (.cond (.tmp 29)
 .skip
 (.exit 0)))
 (.block 1
 (.seq
 (.reg [
 ⟨(some 30), (.move (.tmp 6)), none, []⟩,
 ⟨(some 31), (.bin .sub (.tmp 30) (.const (.int .i64 1))), none, []⟩,
 ⟨(some 32), (.bin .quo (.tmp 31) (.const (.int .i64 2))), none, []⟩,
 ⟨(some 7), (.move (.tmp 32)), none, []⟩] false [0, 6, 7])
 (.seq
 (.seq
 (.reg op77_33 true [0, 6, 7, 48])
 (.cond (.tmp 48)
 .ret
 .skip))
 (.seq
 (.reg op77_49 true [0, 7])
 (.reg [
 ⟨(some 75), (.move (.tmp 7)), none, []⟩,
 ⟨(some 6), (.move (.tmp 75)), none, []⟩] false [0, 6])))))))))))
-- simp set: ac77, op77_33, op77_49
theorem isF77 : IsFunc Try.prog 77 3 ac77 [] := isFunc_of _ [(0, [0, 1, 2, 9]), (1, [0]), (2, [0, 6]), (3, [0, 6, 29]), (4, [0, 6, 7]), (5, [0, 6, 7, 48]), (6, [0, 7]), (7, [0, 6])] Try.func77 (by kernel_rfl)
/-- (*waymark/heap.Heap).Pop; loop heads: [[0, 5, 7]] -/
def op78_24 : List AOper := [
 ⟨(some 24), (.move (.tmp 0)), none, []⟩,
 ⟨(some 25), (.nilCheck (.tmp 24)), none, [0]⟩,
 ⟨(some 26), (.fieldAddr 0 (.tmp 25)), none, [1]⟩,
 ⟨(some 27), (.load false 1 (.tmp 26)), none, [2]⟩,
 ⟨(some 28), (.move (.tmp 0)), none, []⟩,
 ⟨(some 29), (.nilCheck (.tmp 28)), none, [4]⟩,
 ⟨(some 30), (.fieldAddr 0 (.tmp 29)), none, [5]⟩,
 ⟨(some 31), (.load false 1 (.tmp 30)), none, [6]⟩,
 ⟨(some 32), (.move (.tmp 6)), none, []⟩,
 ⟨(some 33), (.indexAddrS 2 (.tmp 31) (.tmp 32)), none, [7, 8]⟩,
 ⟨(some 34), (.load true 2 (.tmp 33)), none, [9]⟩,
 ⟨(some 35), (.indexAddrS 2 (.tmp 27) (.const (.int .i64 0))), none, [3, 0, 1, 2, 3, 4, 5, 6, 7, 8, 9, 10]⟩,
 ⟨none, (.store 2 (.tmp 35) (.tmp 34)), none, [11, 10, 0, 1, 2, 3, 4, 5, 6, 7, 8, 9, 10]⟩]
@[go_sem ↓] theorem op78_24_run {K : AExit → Fr → Store → Prop} {fr : Fr} {σ : Store} : wp Try.prog (.reg op78_24 true [0, 5, 6]) K fr σ = wpOpsD Try.prog (Kreg [0, 5, 6] K) op78_24 (Fr.get fr) σ := wp_draw (by kernel_rfl)
def op78_51 : List AOper := [
 ⟨(some 51), (.fieldAddr 0 (.tmp 5)), none, []⟩,
 ⟨(some 52), (.load false 1 (.tmp 51)), none, [0]⟩,
 ⟨(some 53), (.fieldAddr 1 (.tmp 5)), none, []⟩,
 ⟨(some 54), (.load false 1 (.tmp 53)), none, [2]⟩,
 ⟨(some 2), (.move (.tmp 52)), none, [1, 0, 1]⟩,
 ⟨(some 3), (.move (.tmp 54)), none, [3, 4, 0, 1, 2, 3, 4]⟩,
 ⟨(some 4), (.move (.const (.bool true))), none, [5, 0, 1, 2, 3, 4, 5]⟩]
@[go_sem ↓] theorem op78_51_run {K : AExit → Fr → Store → Prop} {fr : Fr} {σ : Store} : wp Try.prog (.reg op78_51 true [2, 3, 4]) K fr σ = wpOpsD Try.prog (Kreg [2, 3, 4] K) op78_51 (Fr.get fr) σ := wp_draw (by kernel_rfl)
def op78_55 : List AOper := [
 ⟨(some 55), (.move (.tmp 0)), none, []⟩,
 ⟨(some 56), (.nilCheck (.tmp 55)), none, [0]⟩,
 ⟨(some 57), (.fieldAddr 0 (.tmp 56)), none, [1]⟩,
 ⟨(some 58), (.load false 1 (.tmp 57)), none, [2]⟩,
 ⟨(some 59), (.move (.tmp 7)), none, []⟩,
 ⟨(some 60), (.move (.tmp 0)), none, []⟩,
 ⟨(some 61), (.nilCheck (.tmp 60)), none, [5]⟩,
 ⟨(some 62), (.fieldAddr 0 (.tmp 61)), none, [6]⟩,
 ⟨(some 63), (.load false 1 (.tmp 62)), none, [7]⟩,
 ⟨(some 64), (.move (.tmp 8)), none, []⟩,
 ⟨(some 65), (.move (.tmp 0)), none, []⟩,
 ⟨(some 66), (.nilCheck (.tmp 65)), none, [10]⟩,
 ⟨(some 67), (.fieldAddr 0 (.tmp 66)), none, [11]⟩,
 ⟨(some 68), (.load false 1 (.tmp 67)), none, [12]⟩,
 ⟨(some 69), (.move (.tmp 8)), none, []⟩,
 ⟨(some 70), (.indexAddrS 2 (.tmp 68) (.tmp 69)), none, [13, 14]⟩,
 ⟨(some 71), (.load true 2 (.tmp 70)), none, [15]⟩,
 ⟨(some 72), (.move (.tmp 0)), none, []⟩,
 ⟨(some 73), (.nilCheck (.tmp 72)), none, [17]⟩,
 ⟨(some 74), (.fieldAddr 0 (.tmp 73)), none, [18]⟩,
 ⟨(some 75), (.load false 1 (.tmp 74)), none, [19]⟩,
 ⟨(some 76), (.move (.tmp 7)), none, []⟩,
 ⟨(some 77), (.indexAddrS 2 (.tmp 75) (.tmp 76)), none, [20, 21]⟩,
 ⟨(some 78), (.load true 2 (.tmp 77)), none, [22]⟩,
 ⟨(some 79), (.indexAddrS 2 (.tmp 58) (.tmp 59)), none, [3, 4, 0, 1, 2, 3, 4, 8, 10, 11, 12, 13, 14, 15, 16, 20, 23]⟩,
 ⟨none, (.store 2 (.tmp 79) (.tmp 71)), none, [24, 16, 0, 1, 2, 3, 4, 8, 10, 11, 12, 13, 14, 15, 16, 20, 23]⟩,
 ⟨(some 80), (.indexAddrS 2 (.tmp 63) (.tmp 64)), none, [8, 9, 0, 1, 2, 3, 4, 5, 6, 7, 8, 9, 10, 11, 12, 13, 14, 15, 16, 17, 18, 19, 20, 21, 22, 23, 24, 25]⟩,
 ⟨none, (.store 2 (.tmp 80) (.tmp 78)), none, [26, 23, 25, 0, 1, 2, 3, 4, 5, 6, 7, 8, 9, 10, 11, 12, 13, 14, 15, 16, 17, 18, 19, 20, 21, 22, 23, 24, 25]⟩]
@[go_sem ↓] theorem op78_55_run {K : AExit → Fr → Store → Prop} {fr : Fr} {σ : Store} : wp Try.prog (.reg op78_55 true [0, 5, 8]) K fr σ = wpOpsD Try.prog (Kreg [0, 5, 8] K) op78_55 (Fr.get fr) σ := wp_draw (by kernel_rfl)
def ac78 : ACode :=
 (.seq
 (.reg [
 ⟨(some 2), (.move (.const (.int .i64 0))), none, []⟩,
 ⟨(some 3), (.move (.const (.int .i64 0))), none, []⟩,
 ⟨(some 4), (.move (.const (.bool false))), none, []⟩] false [0])
 (.seq
 (.seq
 (.reg [
 ⟨(some 9), (.move (.tmp 0)), none, []⟩,
 ⟨(some 10), (.callF 92 [(.tmp 9)]), none, []⟩,
 ⟨(some 11), (.bin .eql (.tmp 10) (.const (.int .i64 0))), none, []⟩] false [0, 11])
 (.cond (.tmp 11)
 (.seq
 (.reg [
 ⟨(some 2), (.move (.const (.int .i64 0))), none, []⟩,
 ⟨(some 3), (.move (.const (.int .i64 0))), none, []⟩,
 ⟨(some 4), (.move (.const (.bool false))), none, []⟩] false [2, 3, 4])
 .ret)
 .skip))
 (.seq
 (.reg [
 ⟨(some 12), (.move (.tmp 0)), none, []⟩,
 ⟨(some 13), (.nilCheck (.tmp 12)), none, []⟩,
 ⟨(some 14), (.fieldAddr 0 (.tmp 13)), none, []⟩,
 ⟨(some 15), (.load false 1 (.tmp 14)), none, []⟩,
 ⟨(some 16), (.indexAddrS 2 (.tmp 15) (.const (.int .i64 0))), none, []⟩,
 ⟨(some 17), (.load true 2 (.tmp 16)), none, []⟩,
 ⟨(some 5), (.alloc [(.sc (.int .i64 0)), (.sc (.int .i64 0))]), none, []⟩,
 ⟨none, (.store 2 (.tmp 5) (.tmp 17)), none, []⟩] false [0, 5])
 (.seq
 (.reg [
 ⟨(some 18), (.move (.tmp 0)), none, []⟩,
 ⟨(some 19), (.nilCheck (.tmp 18)), none, []⟩,
 ⟨(some 20), (.fieldAddr 0 (.tmp 19)), none, []⟩,
 ⟨(some 21), (.load false 1 (.tmp 20)), none, []⟩,
 ⟨(some 22), (.lenS (.tmp 21)), none, []⟩,
 ⟨(some 23), (.bin .sub (.tmp 22) (.const (.int .i64 1))), none, []⟩,
 ⟨(some 6), (.move (.tmp 23)), none, []⟩] false [0, 5, 6])
 (.seq
 (.reg op78_24 true [0, 5, 6])
 (.seq
 (.reg [
 ⟨(some 36), (.move (.tmp 0)), none, []⟩,
 ⟨(some 37), (.move (.tmp 0)), none, []⟩,
 ⟨(some 38), (.nilCheck (.tmp 37)), none, []⟩,
 ⟨(some 39), (.fieldAddr 0 (.tmp 38)), none, []⟩,
 ⟨(some 40), (.load false 1 (.tmp 39)), none, []⟩,
 ⟨(some 41), (.move (.tmp 6)), none, []⟩,
 ⟨(some 42), (.slice 2 (.tmp 40) none (some (.tmp 41)) none), none, []⟩,
 ⟨(some 43), (.nilCheck (.tmp 36)), none, []⟩,
 ⟨(some 44), (.fieldAddr 0 (.tmp 43)), none, []⟩,
 ⟨none, (.store 1 (.tmp 44) (.tmp 42)), none, []⟩] false [0, 5])
 (.seq
 (.reg [
 ⟨(some 7), (.move (.const (.int .i64 0))), none, []⟩] false [0, 5, 7])
 (.block 0
 (.loop
 (.block 1
 (.seq
 (.reg [
 ⟨(some 45), (.move (.tmp 0)), none, []⟩,
 ⟨(some 46), (.move (.tmp 7)), none, []⟩,
 ⟨(some 47), (.callF 93 [(.tmp 45), (.tmp 46)]), none, []⟩,
 ⟨(some 8), (.move (.tmp 47)), none, []⟩] false [0, 5, 7, 8])
 (.seq
 (.seq
 (.reg [
 ⟨(some 48), (.move (.tmp 8)), none, []⟩,
 ⟨(some 49), (.move (.tmp 7)), none, []⟩,
 ⟨(some 50), (.bin .eql (.tmp 48) (.tmp 49)), none, []⟩] false [0, 5, 7, 8, 50])
 (.cond (.tmp 50)
 (.seq
 (.reg op78_51 true [2, 3, 4])
 .ret)
 .skip))
 (.seq
 (.reg op78_55 true [0, 5, 8])
 (.reg [
 ⟨(some 81), (.move (.tmp 8)), none, []⟩,
 ⟨(some 7), (.move (.tmp 81)), none, []⟩] false [0, 5, 7]))))))))))))))
-- simp set: ac78, op78_24, op78_51, op78_55
theorem isF78 : IsFunc Try.prog 78 1 ac78 [.tmp 2, .tmp 3, .tmp 4] := isFunc_of _ [(0, [0]), (1, [0, 11]), (2, [2, 3, 4]), (3, [0, 5]), (4, [0, 5, 6]), (5, [0, 5, 6]), (6, [0, 5]), (7, [0, 5, 7]), (8, [0, 5, 7, 8]), (9, [0, 5, 7, 8, 50]), (10, [2, 3, 4]), (11, [0, 5, 8]), (12, [0, 5, 7])] Try.func78 (by kernel_rfl)
/-- waymark/prune.Right$1; loop heads: [] -/
def ac79 : ACode :=
 (.seq
 (.reg [
 ⟨(some 3), (.move (.const (.bool false))), none, []⟩] false [0, 1])
 (.seq
 (.reg [
 ⟨(some 4), (.load true 2 (.tmp 1)), none, []⟩,
 ⟨(some 5), (.move (.tmp 0)), none, []⟩,
 ⟨(some 6), (.callF 28 [(.tmp 4), (.tmp 5)]), none, []⟩,
 ⟨(some 7), (.un .not (.tmp 6)), none, []⟩,
 ⟨(some 3), (.move (.tmp 7)), none, []⟩] false [3])
 .ret))
-- simp set: ac79
theorem isF79 : IsFunc Try.prog 79 2 ac79 [.tmp 3] := isFunc_of _ [(0, [0, 1]), (1, [3])] Try.func79 (by kernel_rfl)
/-- waymark/prune.Right$2; loop heads: [] -/
def ac80 : ACode :=
 (.seq
 (.reg [
 ⟨(some 3), (.move (.const (.bool false))), none, []⟩] false [0, 1])
 (.seq
 (.reg [
 ⟨(some 4), (.move (.tmp 0)), none, []⟩,
 ⟨(some 5), (.bin .lss (.tmp 4) (.const (.int .i64 0))), none, []⟩,
 ⟨(some 6), (.move (.tmp 5)), none, []⟩,
 ⟨(some 7), (.move (.tmp 0)), (some (6, false)), []⟩,
 ⟨(some 8), (.fieldAddr 1 (.tmp 1)), (some (6, false)), []⟩,
 ⟨(some 9), (.load false 1 (.tmp 8)), (some (6, false)), []⟩,
 ⟨(some 10), (.lenS (.tmp 9)), (some (6, false)), []⟩,
 ⟨(some 11), (.bin .geq (.tmp 7) (.tmp 10)), (some (6, false)), []⟩,
 ⟨(some 12), (.pick (.tmp 6) (.const (.bool true)) (.tmp 11)), none, []⟩,
 ⟨(some 3), (.move (.tmp 12)), none, []⟩] false [3])
 .ret))
-- simp set: ac80
theorem isF80 : IsFunc Try.prog 80 2 ac80 [.tmp 3] := isFunc_of _ [(0, [0, 1]), (1, [3])] Try.func80 (by kernel_rfl)
/-- waymark/prune.Right$3; loop heads: [] -/
def ac81 : ACode :=
 (.seq
 (.reg [
 ⟨(some 2), (.move (.const (.bool false))), none, []⟩] false [0])
 (.seq
 (.reg [
 ⟨(some 3), (.move (.tmp 0)), none, []⟩,
 ⟨(some 4), (.bin .lss (.tmp 3) (.const (.int .i64 0))), none, []⟩,
 ⟨(some 5), (.move (.tmp 4)), none, []⟩,
 ⟨(some 6), (.move (.tmp 0)), (some (5, false)), []⟩,
 ⟨(some 7), (.bin .gtr (.tmp 6) (.const (.int .i64 62))), (some (5, false)), []⟩,
 ⟨(some 8), (.pick (.tmp 5) (.const (.bool true)) (.tmp 7)), none, []⟩,
 ⟨(some 2), (.move (.tmp 8)), none, []⟩] false [2])
 .ret))
-- simp set: ac81
theorem isF81 : IsFunc Try.prog 81 1 ac81 [.tmp 2] := isFunc_of _ [(0, [0]), (1, [2])] Try.func81 (by kernel_rfl)
/-- slices.ContainsFunc[[]int,int]; loop heads: [] -/
def ac82 : ACode :=
 (.seq
 (.reg [
 ⟨(some 4), (.move (.const (.bool false))), none, []⟩] false [0, 1])
 (.seq
 (.reg [
 ⟨(some 5), (.move (.tmp 0)), none, []⟩,
 ⟨(some 6), (.move (.tmp 1)), none, []⟩,
 ⟨(some 7), (.callF 94 [(.tmp 5), (.tmp 6)]), none, []⟩,
 ⟨(some 8), (.bin .geq (.tmp 7) (.const (.int .i64 0))), none, []⟩,
 ⟨(some 4), (.move (.tmp 8)), none, []⟩] false [4])
 .ret))
-- simp set: ac82
theorem isF82 : IsFunc Try.prog 82 2 ac82 [.tmp 4] := isFunc_of _ [(0, [0, 1]), (1, [4])] Try.func82 (by kernel_rfl)
/-- slices.Contains[[]int,int]; loop heads: [] -/
def ac83 : ACode :=
 (.seq
 (.reg [
 ⟨(some 4), (.move (.const (.bool false))), none, []⟩] false [0, 1])
 (.seq
 (.reg [
 ⟨(some 5), (.move (.tmp 0)), none, []⟩,
 ⟨(some 6), (.move (.tmp 1)), none, []⟩,
 ⟨(some 7), (.callF 95 [(.tmp 5), (.tmp 6)]), none, []⟩,
 ⟨(some 8), (.bin .geq (.tmp 7) (.const (.int .i64 0))), none, []⟩,
 ⟨(some 4), (.move (.tmp 8)), none, []⟩] false [4])
 .ret))
-- simp set: ac83
theorem isF83 : IsFunc Try.prog 83 2 ac83 [.tmp 4] := isFunc_of _ [(0, [0, 1]), (1, [4])] Try.func83 (by kernel_rfl)
/-- (*waymark/tables.Tables).Dist; loop heads: [] -/
def ac84 : ACode :=
 (.seq
 (.reg [
 ⟨(some 6), (.move (.const (.int .i64 0))), none, []⟩] false [0, 1, 2])
 (.seq
 (.seq
 (.reg [
 ⟨(some 7), (.move (.tmp 0)), none, []⟩,
 ⟨(some 8), (.move (.tmp 1)), none, []⟩,
 ⟨(some 9), (.callF 88 [(.tmp 7), (.tmp 8)]), none, []⟩,
 ⟨(some 10), (.un .not (.tmp 9)), none, []⟩,
 ⟨(some 11), (.move (.tmp 10)), none, []⟩,
 ⟨(some 12), (.move (.tmp 0)), (some (11, false)), []⟩,
 ⟨(some 13), (.move (.tmp 2)), (some (11, false)), []⟩,
 ⟨(some 14), (.callF 88 [(.tmp 12), (.tmp 13)]), (some (11, false)), []⟩,
 ⟨(some 15), (.un .not (.tmp 14)), (some (11, false)), []⟩,
 ⟨(some 16), (.pick (.tmp 11) (.const (.bool true)) (.tmp 15)), none, []⟩] false [0, 1, 2, 16])
 (.cond (.tmp 16)
 (.seq
 (.reg [
 ⟨(some 6), (.move (.const (.int .i64 (-1)))), none, []⟩] false [6])
 .ret)
 .skip))
 (.seq
 (.reg [
 ⟨(some 17), (.move (.tmp 0)), none, []⟩,
 ⟨(some 18), (.nilCheck (.tmp 17)), none, []⟩,
 ⟨(some 19), (.fieldAddr 2 (.tmp 18)), none, []⟩,
 ⟨(some 20), (.load false 1 (.tmp 19)), none, []⟩,
 ⟨(some 21), (.move (.tmp 2)), none, []⟩,
 ⟨(some 22), (.indexAddrS 1 (.tmp 20) (.tmp 21)), none, []⟩,
 ⟨(some 23), (.load false 1 (.tmp 22)), none, []⟩,
 ⟨(some 24), (.move (.tmp 1)), none, []⟩,
 ⟨(some 25), (.indexAddrS 1 (.tmp 23) (.tmp 24)), none, []⟩,
 ⟨(some 26), (.load false 1 (.tmp 25)), none, []⟩,
 ⟨(some 6), (.move (.tmp 26)), none, []⟩] false [6])
 .ret)))
-- simp set: ac84
theorem isF84 : IsFunc Try.prog 84 3 ac84 [.tmp 6] := isFunc_of _ [(0, [0, 1, 2]), (1, [0, 1, 2, 16]), (2, [6]), (3, [6])] Try.func84 (by kernel_rfl)
/-- (*waymark/expand.Map).order; loop heads: [[0, 2, 7, 8, 9], [0, 2, 7, 8, 9, 43, 44, 45], [0, 2, 8, 73, 74], [0, 2, 8, 16, 73, 74]] -/
def op85_34 : List AOper := [
 ⟨(some 34), (.move (.tmp 0)), none, []⟩,
 ⟨(some 35), (.nilCheck (.tmp 34)), none, [0]⟩,
 ⟨(some 36), (.fieldAddr 0 (.tmp 35)), none, [1]⟩,
 ⟨(some 37), (.load false 1 (.tmp 36)), none, [2]⟩,
 ⟨(some 38), (.move (.tmp 8)), none, []⟩,
 ⟨(some 39), (.move (.tmp 9)), none, []⟩,
 ⟨(some 40), (.indexAddrS 1 (.tmp 38) (.tmp 39)), none, [4, 5]⟩,
 ⟨(some 41), (.load false 1 (.tmp 40)), none, [6]⟩,
 ⟨(some 42), (.move (.tmp 2)), none, []⟩,
 ⟨(some 43), (.callF 70 [(.tmp 37), (.tmp 41), (.tmp 42)]), none, [3, 7, 8]⟩,
 ⟨(some 44), (.lenS (.tmp 43)), none, [9]⟩,
 ⟨(some 45), (.move (.const (.int .i64 0))), none, []⟩]
@[go_sem ↓] theorem op85_34_run {K : AExit → Fr → Store → Prop} {fr : Fr} {σ : Store} : wp Try.prog (.reg op85_34 true [0, 2, 7, 8, 9, 43, 44, 45]) K fr σ = wpOpsD Try.prog (Kreg [0, 2, 7, 8, 9, 43, 44, 45] K) op85_34 (Fr.get fr) σ := wp_draw (by kernel_rfl)
def op85_78 : List AOper := [
 ⟨(some 78), (.move (.tmp 16)), none, []⟩,
 ⟨(some 79), (.bin .gtr (.tmp 78) (.const (.int .i64 0))), none, [0]⟩,
 ⟨(some 80), (.move (.tmp 79)), none, [1]⟩,
 ⟨(some 81), (.move (.tmp 0)), (some (80, true)), [2]⟩,
 ⟨(some 82), (.nilCheck (.tmp 81)), (some (80, true)), [3, 2]⟩,
 ⟨(some 83), (.fieldAddr 0 (.tmp 82)), (some (80, true)), [4, 2]⟩,
 ⟨(some 84), (.load false 1 (.tmp 83)), (some (80, true)), [5, 2]⟩,
 ⟨(some 85), (.move (.tmp 8)), (some (80, true)), [2]⟩,
 ⟨(some 86), (.move (.tmp 16)), (some (80, true)), [2]⟩,
 ⟨(some 87), (.indexAddrS 1 (.tmp 85) (.tmp 86)), (some (80, true)), [7, 8, 2]⟩,
 ⟨(some 88), (.load false 1 (.tmp 87)), (some (80, true)), [9, 2]⟩,
 ⟨(some 89), (.move (.tmp 2)), (some (80, true)), [2]⟩,
 ⟨(some 90), (.callF 84 [(.tmp 84), (.tmp 88), (.tmp 89)]), (some (80, true)), [6, 10, 11, 2, 2]⟩,
 ⟨(some 91), (.move (.tmp 0)), (some (80, true)), [2]⟩,
 ⟨(some 92), (.nilCheck (.tmp 91)), (some (80, true)), [13, 2]⟩,
 ⟨(some 93), (.fieldAddr 0 (.tmp 92)), (some (80, true)), [14, 2]⟩,
 ⟨(some 94), (.load false 1 (.tmp 93)), (some (80, true)), [15, 2]⟩,
 ⟨(some 95), (.move (.tmp 8)), (some (80, true)), [2]⟩,
 ⟨(some 96), (.move (.tmp 16)), (some (80, true)), [2]⟩,
 ⟨(some 97), (.bin .sub (.tmp 96) (.const (.int .i64 1))), (some (80, true)), [18, 2]⟩,
 ⟨(some 98), (.indexAddrS 1 (.tmp 95) (.tmp 97)), (some (80, true)), [17, 19, 2]⟩,
 ⟨(some 99), (.load false 1 (.tmp 98)), (some (80, true)), [20, 2]⟩,
 ⟨(some 100), (.move (.tmp 2)), (some (80, true)), [2]⟩,
 ⟨(some 101), (.callF 84 [(.tmp 94), (.tmp 99), (.tmp 100)]), (some (80, true)), [16, 21, 22, 12, 2]⟩,
 ⟨(some 102), (.bin .gtr (.tmp 90) (.tmp 101)), (some (80, true)), [12, 23, 2]⟩,
 ⟨(some 103), (.pick (.tmp 80) (.tmp 102) (.const (.bool false))), none, [2, 24]⟩]
@[go_sem ↓] theorem op85_78_run {K : AExit → Fr → Store → Prop} {fr : Fr} {σ : Store} : wp Try.prog (.reg op85_78 true [0, 2, 8, 16, 73, 74, 103]) K fr σ = wpOpsD Try.prog (Kreg [0, 2, 8, 16, 73, 74, 103] K) op85_78 (Fr.get fr) σ := wp_draw (by kernel_rfl)
def op85_106 : List AOper := [
 ⟨(some 106), (.move (.tmp 8)), none, []⟩,
 ⟨(some 107), (.move (.tmp 16)), none, []⟩,
 ⟨(some 108), (.move (.tmp 8)), none, []⟩,
 ⟨(some 109), (.move (.tmp 16)), none, []⟩,
 ⟨(some 110), (.bin .sub (.tmp 109) (.const (.int .i64 1))), none, [3]⟩,
 ⟨(some 111), (.move (.tmp 8)), none, []⟩,
 ⟨(some 112), (.move (.tmp 16)), none, []⟩,
 ⟨(some 113), (.bin .sub (.tmp 112) (.const (.int .i64 1))), none, [6]⟩,
 ⟨(some 114), (.indexAddrS 1 (.tmp 111) (.tmp 113)), none, [5, 7]⟩,
 ⟨(some 115), (.load false 1 (.tmp 114)), none, [8]⟩,
 ⟨(some 116), (.move (.tmp 8)), none, []⟩,
 ⟨(some 117), (.move (.tmp 16)), none, []⟩,
 ⟨(some 118), (.indexAddrS 1 (.tmp 116) (.tmp 117)), none, [10, 11]⟩,
 ⟨(some 119), (.load false 1 (.tmp 118)), none, [12]⟩,
 ⟨(some 120), (.indexAddrS 1 (.tmp 106) (.tmp 107)), none, [0, 1, 0, 1, 5, 6, 7, 8, 9, 13]⟩,
 ⟨none, (.store 1 (.tmp 120) (.tmp 115)), none, [14, 9, 0, 1, 5, 6, 7, 8, 9, 13]⟩,
 ⟨(some 121), (.indexAddrS 1 (.tmp 108) (.tmp 110)), none, [2, 4, 0, 1, 2, 3, 4, 5, 6, 7, 8, 9, 10, 11, 12, 13, 14, 15]⟩,
 ⟨none, (.store 1 (.tmp 121) (.tmp 119)), none, [16, 13, 15, 0, 1, 2, 3, 4, 5, 6, 7, 8, 9, 10, 11, 12, 13, 14, 15]⟩]
@[go_sem ↓] theorem op85_106_run {K : AExit → Fr → Store → Prop} {fr : Fr} {σ : Store} : wp Try.prog (.reg op85_106 true [0, 2, 8, 16, 73, 74]) K fr σ = wpOpsD Try.prog (Kreg [0, 2, 8, 16, 73, 74] K) op85_106 (Fr.get fr) σ := wp_draw (by kernel_rfl)
def ac85 : ACode :=
 (.seq
 (.reg [
 ⟨(some 6), (.move (.const (.slice none 0 0))), none, []⟩] false [0, 1, 2])
 (.seq
 (.reg [
 ⟨(some 17), (.move (.tmp 0)), none, []⟩,
 ⟨(some 18), (.nilCheck (.tmp 17)), none, []⟩,
 ⟨(some 19), (.fieldAddr 1 (.tmp 18)), none, []⟩,
 ⟨(some 20), (.fieldAddr 0 (.tmp 19)), none, []⟩,
 ⟨(some 21), (.load false 1 (.tmp 20)), none, []⟩,
 ⟨(some 22), (.makeSlice 1 1 [(.sc (.bool false))] (.tmp 21) (.tmp 21)), none, []⟩,
 ⟨(some 7), (.move (.tmp 22)), none, []⟩] false [0, 1, 2, 7])
 (.seq
 (.reg [
 ⟨(some 23), (.move (.tmp 7)), none, []⟩,
 ⟨(some 24), (.move (.tmp 1)), none, []⟩,
 ⟨(some 25), (.indexAddrS 1 (.tmp 23) (.tmp 24)), none, []⟩,
 ⟨none, (.store 1 (.tmp 25) (.const (.bool true))), none, []⟩] false [0, 1, 2, 7])
 (.seq
 (.reg [
 ⟨(some 26), (.move (.tmp 1)), none, []⟩,
 ⟨(some 27), (.buildSlice 1 1 [(.sc (.int .i64 0))] [(0, (.tmp 26))]), none, []⟩,
 ⟨(some 8), (.move (.tmp 27)), none, []⟩] false [0, 2, 7, 8])
 (.seq
 (.seq
 (.reg [
 ⟨(some 9), (.move (.const (.int .i64 0))), none, []⟩] false [0, 2, 7, 8, 9])
 (.block 0
 (.loop
 (.seq
 (.seq
 (.reg [
 ⟨(some 28), (.move (.tmp 9)), none, []⟩,
 ⟨(some 29), (.move (.tmp 8)), none, []⟩,
 ⟨(some 30), (.lenS (.tmp 29)), none, []⟩,
 ⟨(some 31), (.bin .lss (.tmp 28) (.tmp 30)), none, []⟩] false [0, 2, 7, 8, 9, 31])
 (.cond (.tmp 31)
 .skip
 (.exit 0)))
 (.seq
 (.block 1
 (.seq
 (.reg op85_34 true [0, 2, 7, 8, 9, 43, 44, 45])
 (.block 2
 (.loop
 (.seq
 (.reg [
 ⟨(some 46), (.bin .lss (.tmp 45) (.tmp 44)), none, []⟩] false [0, 2, 7, 8, 9, 43, 44, 45, 46])
 (.seq
 (.cond (.tmp 46)
 .skip
 (.exit 2))
 (.seq
 (.block 3
 (.seq
 (.reg [
 ⟨(some 47), (.indexAddrS 1 (.tmp 43) (.tmp 45)), none, []⟩,
 ⟨(some 48), (.load false 1 (.tmp 47)), none, []⟩,
 ⟨(some 11), (.move (.tmp 48)), none, []⟩] false [0, 2, 7, 8, 9, 11, 43, 44, 45])
 (.seq
 (.reg [
 ⟨(some 50), (.move (.tmp 0)), none, []⟩,
 ⟨(some 51), (.nilCheck (.tmp 50)), none, []⟩,
 ⟨(some 52), (.fieldAddr 1 (.tmp 51)), none, []⟩,
 ⟨(some 53), (.load true 2 (.tmp 52)), none, []⟩,
 ⟨(some 54), (.move (.tmp 11)), none, []⟩,
 ⟨(some 55), (.callF 63 [(.tmp 53), (.tmp 54)]), none, []⟩,
 ⟨(some 49), (.move (.tmp 55)), none, []⟩,
 ⟨(some 56), (.extract (.tmp 49) 0), none, []⟩,
 ⟨(some 57), (.extract (.tmp 49) 1), none, []⟩,
 ⟨(some 58), (.extract (.tmp 49) 2), none, []⟩,
 ⟨(some 12), (.move (.tmp 56)), none, []⟩,
 ⟨(some 13), (.move (.tmp 57)), none, []⟩,
 ⟨(some 14), (.move (.tmp 58)), none, []⟩] false [0, 2, 7, 8, 9, 13, 43, 44, 45])
 (.seq
 (.reg [
 ⟨(some 59), (.move (.tmp 7)), none, []⟩,
 ⟨(some 60), (.move (.tmp 13)), none, []⟩,
 ⟨(some 61), (.indexAddrS 1 (.tmp 59) (.tmp 60)), none, []⟩,
 ⟨(some 62), (.load false 1 (.tmp 61)), none, []⟩,
 ⟨(some 63), (.un .not (.tmp 62)), none, []⟩] false [0, 2, 7, 8, 9, 13, 43, 44, 45, 63])
 (.cond (.tmp 63)
 (.seq
 (.reg [
 ⟨(some 64), (.move (.tmp 7)), none, []⟩,
 ⟨(some 65), (.move (.tmp 13)), none, []⟩,
 ⟨(some 66), (.indexAddrS 1 (.tmp 64) (.tmp 65)), none, []⟩,
 ⟨none, (.store 1 (.tmp 66) (.const (.bool true))), none, []⟩] false [0, 2, 7, 8, 9, 13, 43, 44, 45])
 (.reg [
 ⟨(some 67), (.move (.tmp 8)), none, []⟩,
 ⟨(some 68), (.move (.tmp 13)), none, []⟩,
 ⟨(some 69), (.buildSlice 1 1 [(.sc (.int .i64 0))] [(0, (.tmp 68))]), none, []⟩,
 ⟨(some 70), (.append 1 8 [(.sc (.int .i64 0))] (.tmp 67) (.tmp 69)), none, []⟩,
 ⟨(some 8), (.move (.tmp 70)), none, []⟩] false [0, 2, 7, 8, 9, 43, 44, 45]))
 .skip)))))
 (.reg [
 ⟨(some 71), (.bin .add (.tmp 45) (.const (.int .i64 1))), none, []⟩,
 ⟨(some 45), (.move (.tmp 71)), none, []⟩] false [0, 2, 7, 8, 9, 43, 44, 45]))))))))
 (.reg [
 ⟨(some 32), (.move (.tmp 9)), none, []⟩,
 ⟨(some 33), (.bin .add (.tmp 32) (.const (.int .i64 1))), none, []⟩,
 ⟨(some 9), (.move (.tmp 33)), none, []⟩] false [0, 2, 7, 8, 9]))))))
 (.seq
 (.seq
 (.reg [
 ⟨(some 72), (.move (.tmp 8)), none, []⟩,
 ⟨(some 73), (.lenS (.tmp 72)), none, []⟩,
 ⟨(some 74), (.move (.const (.int .i64 0))), none, []⟩] false [0, 2, 8, 73, 74])
 (.block 4
 (.loop
 (.seq
 (.reg [
 ⟨(some 75), (.bin .lss (.tmp 74) (.tmp 73)), none, []⟩] false [0, 2, 8, 73, 74, 75])
 (.seq
 (.cond (.tmp 75)
 .skip
 (.exit 4))
 (.seq
 (.block 5
 (.seq
 (.reg [
 ⟨(some 76), (.move (.tmp 74)), none, []⟩,
 ⟨(some 15), (.move (.tmp 76)), none, []⟩] false [0, 2, 8, 15, 73, 74])
 (.seq
 (.reg [
 ⟨(some 77), (.move (.tmp 15)), none, []⟩,
 ⟨(some 16), (.move (.tmp 77)), none, []⟩] false [0, 2, 8, 16, 73, 74])
 (.block 6
 (.loop
 (.seq
 (.seq
 (.reg op85_78 true [0, 2, 8, 16, 73, 74, 103])
 (.cond (.tmp 103)
 .skip
 (.exit 6)))
 (.seq
 (.block 7
 (.reg op85_106 true [0, 2, 8, 16, 73, 74]))
 (.reg [
 ⟨(some 104), (.move (.tmp 16)), none, []⟩,
 ⟨(some 105), (.bin .sub (.tmp 104) (.const (.int .i64 1))), none, []⟩,
 ⟨(some 16), (.move (.tmp 105)), none, []⟩] false [0, 2, 8, 16, 73, 74]))))))))
 (.reg [
 ⟨(some 122), (.bin .add (.tmp 74) (.const (.int .i64 1))), none, []⟩,
 ⟨(some 74), (.move (.tmp 122)), none, []⟩] false [0, 2, 8, 73, 74])))))))
 (.seq
 (.reg [
 ⟨(some 123), (.move (.tmp 8)), none, []⟩,
 ⟨(some 6), (.move (.tmp 123)), none, []⟩] false [6])
 .ret)))))))
-- simp set: ac85, op85_34, op85_78, op85_106
theorem isF85 : IsFunc Try.prog 85 3 ac85 [.tmp 6] := isFunc_of _ [(0, [0, 1, 2]), (1, [0, 1, 2, 7]), (2, [0, 1, 2, 7]), (3, [0, 2, 7, 8]), (4, [0, 2, 7, 8, 9]), (5, [0, 2, 7, 8, 9, 31]), (7, [0, 2, 7, 8, 9, 43, 44, 45]), (8, [0, 2, 7, 8, 9, 43, 44, 45, 46]), (9, [0, 2, 7, 8, 9, 11, 43, 44, 45]), (10, [0, 2, 7, 8, 9, 13, 43, 44, 45]), (11, [0, 2, 7, 8, 9, 13, 43, 44, 45, 63]), (12, [0, 2, 7, 8, 9, 13, 43, 44, 45]), (13, [0, 2, 7, 8, 9, 43, 44, 45]), (14, [0, 2, 7, 8, 9, 43, 44, 45]), (6, [0, 2, 7, 8, 9]), (15, [0, 2, 8, 73, 74]), (16, [0, 2, 8, 73, 74, 75]), (17, [0, 2, 8, 15, 73, 74]), (18, [0, 2, 8, 16, 73, 74]), (19, [0, 2, 8, 16, 73, 74, 103]), (21, [0, 2, 8, 16, 73, 74]), (20, [0, 2, 8, 16, 73, 74]), (22, [0, 2, 8, 73, 74]), (23, [6])] Try.func85 (by kernel_rfl)
/-- (*waymark/expand.Map).on; loop heads: [[0, 1, 2, 3, 16, 17]] -/
def op86_37 : List AOper := [
 ⟨(some 37), (.move (.tmp 1)), none, []⟩,
 ⟨(some 38), (.indexAddrA 2 1 (.tmp 11) (.const (.int .i64 0))), none, []⟩,
 ⟨(some 39), (.load false 1 (.tmp 38)), none, [1]⟩,
 ⟨(some 40), (.indexAddrA 2 1 (.tmp 11) (.const (.int .i64 1))), none, []⟩,
 ⟨(some 41), (.load false 1 (.tmp 40)), none, [3]⟩,
 ⟨(some 42), (.indexAddrS 6 (.tmp 37) (.tmp 39)), none, [0, 2]⟩,
 ⟨(some 43), (.indexAddrA 6 1 (.tmp 42) (.tmp 41)), none, [5, 4, 0, 1, 2, 3, 4]⟩,
 ⟨none, (.store 1 (.tmp 43) (.const (.bool true))), none, [6, 0, 1, 2, 3, 4]⟩]
@[go_sem ↓] theorem op86_37_run {K : AExit → Fr → Store → Prop} {fr : Fr} {σ : Store} : wp Try.prog (.reg op86_37 true [0, 1, 2, 3, 16, 17]) K fr σ = wpOpsD Try.prog (Kreg [0, 1, 2, 3, 16, 17] K) op86_37 (Fr.get fr) σ := wp_draw (by kernel_rfl)
def ac86 : ACode :=
 (.seq
 (.reg [
 ⟨(some 8), (.move (.const (.bool false))), none, []⟩] false [0, 1, 2, 3])
 (.seq
 (.seq
 (.reg [
 ⟨(some 13), (.move (.tmp 1)), none, []⟩,
 ⟨(some 14), (.move (.tmp 2)), none, []⟩,
 ⟨(some 15), (.indexAddrS 6 (.tmp 13) (.tmp 14)), none, []⟩,
 ⟨(some 16), (.load true 6 (.tmp 15)), none, []⟩,
 ⟨(some 17), (.move (.const (.int .i64 0))), none, []⟩] false [0, 1, 2, 3, 16, 17])
 (.block 0
 (.loop
 (.seq
 (.reg [
 ⟨(some 18), (.bin .lss (.tmp 17) (.const (.int .i64 6))), none, []⟩] false [0, 1, 2, 3, 16, 17, 18])
 (.seq
 (.cond (.tmp 18)
 .skip
 (.exit 0))
 (.seq
 (.block 1
 (.seq
 (.reg [
 ⟨(some 19), (.move (.tmp 17)), none, []⟩,
 ⟨(some 20), (.indexA 6 false 1 (.tmp 16) (.tmp 17)), none, []⟩,
 ⟨(some 9), (.move (.tmp 19)), none, []⟩,
 ⟨(some 10), (.move (.tmp 20)), none, []⟩] false [0, 1, 2, 3, 9, 10, 16, 17])
 (.seq
 (.seq
 (.reg [
 ⟨(some 21), (.move (.tmp 10)), none, []⟩,
 ⟨(some 22), (.un .not (.tmp 21)), none, []⟩] false [0, 1, 2, 3, 9, 16, 17, 22])
 (.cond (.tmp 22)
 (.exit 1)
 .skip))
 (.seq
 (.reg [
 ⟨(some 24), (.move (.tmp 0)), none, []⟩,
 ⟨(some 25), (.nilCheck (.tmp 24)), none, []⟩,
 ⟨(some 26), (.fieldAddr 3 (.tmp 25)), none, []⟩,
 ⟨(some 27), (.load false 1 (.tmp 26)), none, []⟩,
 ⟨(some 28), (.move (.tmp 2)), none, []⟩,
 ⟨(some 29), (.move (.tmp 9)), none, []⟩,
 ⟨(some 30), (.build [(.sc (.int .i64 0)), (.sc (.int .i64 0))] [(0, 1, (.tmp 28)), (1, 1, (.tmp 29))]), none, []⟩,
 ⟨(some 31), (.move (.tmp 3)), none, []⟩,
 ⟨(some 32), (.callF 67 [(.tmp 27), (.tmp 30), (.tmp 31)]), none, []⟩,
 ⟨(some 23), (.move (.tmp 32)), none, []⟩,
 ⟨(some 33), (.extract (.tmp 23) 0), none, []⟩,
 ⟨(some 34), (.extract (.tmp 23) 1), none, []⟩,
 ⟨(some 11), (.alloc [(.sc (.int .i64 0)), (.sc (.int .i64 0))]), none, []⟩,
 ⟨none, (.store 2 (.tmp 11) (.tmp 33)), none, []⟩,
 ⟨(some 12), (.move (.tmp 34)), none, []⟩] false [0, 1, 2, 3, 11, 12, 16, 17])
 (.seq
 (.seq
 (.reg [
 ⟨(some 35), (.move (.tmp 12)), none, []⟩,
 ⟨(some 36), (.un .not (.tmp 35)), none, []⟩] false [0, 1, 2, 3, 11, 16, 17, 36])
 (.cond (.tmp 36)
 (.seq
 (.reg [
 ⟨(some 8), (.move (.const (.bool false))), none, []⟩] false [8])
 .ret)
 .skip))
 (.reg op86_37 true [0, 1, 2, 3, 16, 17]))))))
 (.reg [
 ⟨(some 44), (.bin .add (.tmp 17) (.const (.int .i64 1))), none, []⟩,
 ⟨(some 17), (.move (.tmp 44)), none, []⟩] false [0, 1, 2, 3, 16, 17])))))))
 (.seq
 (.reg [
 ⟨(some 8), (.move (.const (.bool true))), none, []⟩] false [8])
 .ret)))
-- simp set: ac86, op86_37
theorem isF86 : IsFunc Try.prog 86 4 ac86 [.tmp 8] := isFunc_of _ [(0, [0, 1, 2, 3]), (1, [0, 1, 2, 3, 16, 17]), (2, [0, 1, 2, 3, 16, 17, 18]), (3, [0, 1, 2, 3, 9, 10, 16, 17]), (4, [0, 1, 2, 3, 9, 16, 17, 22]), (5, [0, 1, 2, 3, 11, 12, 16, 17]), (6, [0, 1, 2, 3, 11, 16, 17, 36]), (7, [8]), (8, [0, 1, 2, 3, 16, 17]), (9, [0, 1, 2, 3, 16, 17]), (10, [8])] Try.func86 (by kernel_rfl)
/-- (waymark/expand.states).only; loop heads: [[4, 5, 8, 9]] -/
def ac87 : ACode :=
 (.seq
 (.reg [
 ⟨(some 1), (.box (.tmp 0)), none, []⟩,
 ⟨(some 2), (.move (.const (.int .i64 0))), none, []⟩,
 ⟨(some 3), (.move (.const (.bool false))), none, []⟩] false [1])
 (.seq
 (.reg [
 ⟨(some 4), (.move (.const (.int .i64 0))), none, []⟩,
 ⟨(some 5), (.move (.const (.int .i64 0))), none, []⟩] false [1, 4, 5])
 (.seq
 (.seq
 (.reg [
 ⟨(some 8), (.load true 6 (.tmp 1)), none, []⟩,
 ⟨(some 9), (.move (.const (.int .i64 0))), none, []⟩] false [4, 5, 8, 9])
 (.block 0
 (.loop
 (.seq
 (.reg [
 ⟨(some 10), (.bin .lss (.tmp 9) (.const (.int .i64 6))), none, []⟩] false [4, 5, 8, 9, 10])
 (.seq
 (.cond (.tmp 10)
 .skip
 (.exit 0))
 (.seq
 (.block 1
 (.seq
 (.reg [
 ⟨(some 11), (.move (.tmp 9)), none, []⟩,
 ⟨(some 12), (.indexA 6 false 1 (.tmp 8) (.tmp 9)), none, []⟩,
 ⟨(some 6), (.move (.tmp 11)), none, []⟩,
 ⟨(some 7), (.move (.tmp 12)), none, []⟩] false [4, 5, 6, 7, 8, 9])
 (.seq
 (.reg [
 ⟨(some 13), (.move (.tmp 7)), none, []⟩] false [4, 5, 6, 8, 9, 13])
 (.cond (.tmp 13)
 (.seq
 (.reg [
 ⟨(some 14), (.move (.tmp 6)), none, []⟩,
 ⟨(some 4), (.move (.tmp 14)), none, []⟩] false [4, 5, 8, 9])
 (.reg [
 ⟨(some 15), (.move (.tmp 5)), none, []⟩,
 ⟨(some 16), (.bin .add (.tmp 15) (.const (.int .i64 1))), none, []⟩,
 ⟨(some 5), (.move (.tmp 16)), none, []⟩] false [4, 5, 8, 9]))
 .skip))))
 (.reg [
 ⟨(some 17), (.bin .add (.tmp 9) (.const (.int .i64 1))), none, []⟩,
 ⟨(some 9), (.move (.tmp 17)), none, []⟩] false [4, 5, 8, 9])))))))
 (.seq
 (.reg [
 ⟨(some 18), (.move (.tmp 4)), none, []⟩,
 ⟨(some 19), (.move (.tmp 5)), none, []⟩,
 ⟨(some 20), (.bin .eql (.tmp 19) (.const (.int .i64 1))), none, []⟩,
 ⟨(some 2), (.move (.tmp 18)), none, []⟩,
 ⟨(some 3), (.move (.tmp 20)), none, []⟩] false [2, 3])
 .ret))))
-- simp set: ac87
theorem isF87 : IsFunc Try.prog 87 1 ac87 [.tmp 2, .tmp 3] := isFunc_of _ [(0, [1]), (1, [1, 4, 5]), (2, [4, 5, 8, 9]), (3, [4, 5, 8, 9, 10]), (4, [4, 5, 6, 7, 8, 9]), (5, [4, 5, 6, 8, 9, 13]), (6, [4, 5, 8, 9]), (7, [4, 5, 8, 9]), (8, [4, 5, 8, 9]), (9, [2, 3])] Try.func87 (by kernel_rfl)
/-- (*waymark/tables.Tables).is; loop heads: [] -/
def ac88 : ACode :=
 (.seq
 (.reg [
 ⟨(some 4), (.move (.const (.bool false))), none, []⟩] false [0, 1])
 (.seq
 (.reg [
 ⟨(some 5), (.move (.tmp 0)), none, []⟩,
 ⟨(some 6), (.eqPtr true (.tmp 5) (.const (.pointer none))), none, []⟩,
 ⟨(some 7), (.move (.tmp 6)), none, []⟩,
 ⟨(some 8), (.move (.tmp 0)), (some (7, true)), []⟩,
 ⟨(some 9), (.nilCheck (.tmp 8)), (some (7, true)), []⟩,
 ⟨(some 10), (.fieldAddr 0 (.tmp 9)), (some (7, true)), []⟩,
 ⟨(some 11), (.load true 2 (.tmp 10)), (some (7, true)), []⟩,
 ⟨(some 12), (.move (.tmp 1)), (some (7, true)), []⟩,
 ⟨(some 13), (.callF 28 [(.tmp 11), (.tmp 12)]), (some (7, true)), []⟩,
 ⟨(some 14), (.pick (.tmp 7) (.tmp 13) (.const (.bool false))), none, []⟩,
 ⟨(some 4), (.move (.tmp 14)), none, []⟩] false [4])
 .ret))
-- simp set: ac88
theorem isF88 : IsFunc Try.prog 88 2 ac88 [.tmp 4] := isFunc_of _ [(0, [0, 1]), (1, [4])] Try.func88 (by kernel_rfl)
/-- slices.Clone[[]int,int]; loop heads: [] -/
def ac89 : ACode :=
 (.seq
 (.reg [
 ⟨(some 2), (.move (.const (.slice none 0 0))), none, []⟩] false [0])
 (.seq
 (.seq
 (.reg [
 ⟨(some 3), (.move (.tmp 0)), none, []⟩,
 ⟨(some 4), (.eqSl false (.tmp 3) (.const (.slice none 0 0))), none, []⟩] false [0, 4])
 (.cond (.tmp 4)
 (.seq
 (.reg [
 ⟨(some 2), (.move (.const (.slice none 0 0))), none, []⟩] false [2])
 .ret)
 .skip))
 (.seq
 (.reg [
 ⟨(some 5), (.buildSlice 1 0 [(.sc (.int .i64 0))] []), none, []⟩,
 ⟨(some 6), (.move (.tmp 0)), none, []⟩,
 ⟨(some 7), (.append 1 8 [(.sc (.int .i64 0))] (.tmp 5) (.tmp 6)), none, []⟩,
 ⟨(some 2), (.move (.tmp 7)), none, []⟩] false [2])
 .ret)))
-- simp set: ac89
theorem isF89 : IsFunc Try.prog 89 1 ac89 [.tmp 2] := isFunc_of _ [(0, [0]), (1, [0, 4]), (2, [2]), (3, [2])] Try.func89 (by kernel_rfl)
/-- slices.Grow[[]waymark/api.Seg,waymark/api.Seg]; loop heads: [] -/
def ac90 : ACode :=
 (.seq
 (.reg [
 ⟨(some 4), (.move (.const (.slice none 0 0))), none, []⟩] false [0, 1])
 (.seq
 (.seq
 (.reg [
 ⟨(some 5), (.move (.tmp 1)), none, []⟩,
 ⟨(some 6), (.bin .lss (.tmp 5) (.const (.int .i64 0))), none, []⟩] false [0, 1, 6])
 (.cond (.tmp 6)
 (.reg [
 ⟨(some 7), .bad, none, []⟩,
 ⟨none, .bad, none, []⟩] false [0, 1])
 .skip))
 (.seq
 (.seq
 (.reg [
 ⟨(some 8), (.move (.tmp 1)), none, []⟩,
 ⟨(some 9), (.move (.tmp 0)), none, []⟩,
 ⟨(some 10), (.capS (.tmp 9)), none, []⟩,
 ⟨(some 11), (.move (.tmp 0)), none, []⟩,
 ⟨(some 12), (.lenS (.tmp 11)), none, []⟩,
 ⟨(some 13), (.bin .sub (.tmp 10) (.tmp 12)), none, []⟩,
 ⟨(some 14), (.bin .sub (.tmp 8) (.tmp 13)), none, []⟩,
 ⟨(some 1), (.move (.tmp 14)), none, []⟩] false [0, 1])
 (.seq
 (.reg [
 ⟨(some 15), (.move (.tmp 1)), none, []⟩,
 ⟨(some 16), (.bin .gtr (.tmp 15) (.const (.int .i64 0))), none, []⟩] false [0, 1, 16])
 (.cond (.tmp 16)
 (.reg [
 ⟨(some 17), (.move (.tmp 0)), none, []⟩,
 ⟨(some 18), (.move (.tmp 0)), none, []⟩,
 ⟨(some 19), (.capS (.tmp 18)), none, []⟩,
 ⟨(some 20), (.slice 2 (.tmp 17) none (some (.tmp 19)) none), none, []⟩,
 ⟨(some 21), (.move (.tmp 1)), none, []⟩,
 ⟨(some 22), (.appendMk 2 16 [(.sc (.bool false)), (.sc (.int .i64 0))] (.tmp 20) (.tmp 21)), none, []⟩,
 ⟨(some 23), (.move (.tmp 0)), none, []⟩,
 ⟨(some 24), (.lenS (.tmp 23)), none, []⟩,
 ⟨(some 25), (.slice 2 (.tmp 22) none (some (.tmp 24)) none), none, []⟩,
 ⟨(some 0), (.move (.tmp 25)), none, []⟩] false [0])
 .skip)))
 (.seq
 (.reg [
 ⟨(some 26), (.move (.tmp 0)), none, []⟩,
 ⟨(some 4), (.move (.tmp 26)), none, []⟩] false [4])
 .ret))))
-- simp set: ac90
theorem isF90 : IsFunc Try.prog 90 2 ac90 [.tmp 4] := isFunc_of _ [(0, [0, 1]), (1, [0, 1, 6]), (2, [0, 1]), (3, [0, 1]), (4, [0, 1, 16]), (5, [0]), (6, [4])] Try.func90 (by kernel_rfl)
/-- (waymark/heap.pair).ahead; loop heads: [] -/
def ac91 : ACode :=
 (.seq
 (.reg [
 ⟨(some 2), (.box (.tmp 0)), none, []⟩,
 ⟨(some 3), (.box (.tmp 1)), none, []⟩,
 ⟨(some 4), (.move (.const (.bool false))), none, []⟩] false [2, 3])
 (.seq
 (.reg [
 ⟨(some 5), (.fieldAddr 0 (.tmp 2)), none, []⟩,
 ⟨(some 6), (.load false 1 (.tmp 5)), none, []⟩,
 ⟨(some 7), (.fieldAddr 0 (.tmp 3)), none, []⟩,
 ⟨(some 8), (.load false 1 (.tmp 7)), none, []⟩,
 ⟨(some 9), (.bin .lss (.tmp 6) (.tmp 8)), none, []⟩,
 ⟨(some 10), (.move (.tmp 9)), none, []⟩,
 ⟨(some 11), (.fieldAddr 0 (.tmp 2)), (some (10, false)), []⟩,
 ⟨(some 12), (.load false 1 (.tmp 11)), (some (10, false)), []⟩,
 ⟨(some 13), (.fieldAddr 0 (.tmp 3)), (some (10, false)), []⟩,
 ⟨(some 14), (.load false 1 (.tmp 13)), (some (10, false)), []⟩,
 ⟨(some 15), (.bin .eql (.tmp 12) (.tmp 14)), (some (10, false)), []⟩,
 ⟨(some 16), (.move (.tmp 15)), (some (10, false)), []⟩,
 ⟨(some 17), (.fieldAddr 1 (.tmp 2)), (some (16, true)), []⟩,
 ⟨(some 18), (.load false 1 (.tmp 17)), (some (16, true)), []⟩,
 ⟨(some 19), (.fieldAddr 1 (.tmp 3)), (some (16, true)), []⟩,
 ⟨(some 20), (.load false 1 (.tmp 19)), (some (16, true)), []⟩,
 ⟨(some 21), (.bin .lss (.tmp 18) (.tmp 20)), (some (16, true)), []⟩,
 ⟨(some 22), (.pick (.tmp 16) (.tmp 21) (.const (.bool false))), (some (10, false)), []⟩,
 ⟨(some 23), (.pick (.tmp 10) (.const (.bool true)) (.tmp 22)), none, []⟩,
 ⟨(some 4), (.move (.tmp 23)), none, []⟩] false [4])
 .ret))
-- simp set: ac91
theorem isF91 : IsFunc Try.prog 91 2 ac91 [.tmp 4] := isFunc_of _ [(0, [2, 3]), (1, [4])] Try.func91 (by kernel_rfl)
/-- (*waymark/heap.Heap).Len; loop heads: [] -/
def ac92 : ACode :=
 (.seq
 (.reg [
 ⟨(some 2), (.move (.const (.int .i64 0))), none, []⟩] false [0])
 (.seq
 (.seq
 (.reg [
 ⟨(some 3), (.move (.tmp 0)), none, []⟩,
 ⟨(some 4), (.eqPtr false (.tmp 3) (.const (.pointer none))), none, []⟩] false [0, 4])
 (.cond (.tmp 4)
 (.seq
 (.reg [
 ⟨(some 2), (.move (.const (.int .i64 0))), none, []⟩] false [2])
 .ret)
 .skip))
 (.seq
 (.reg [
 ⟨(some 5), (.move (.tmp 0)), none, []⟩,
 ⟨(some 6), (.nilCheck (.tmp 5)), none, []⟩,
 ⟨(some 7), (.fieldAddr 0 (.tmp 6)), none, []⟩,
 ⟨(some 8), (.load false 1 (.tmp 7)), none, []⟩,
 ⟨(some 9), (.lenS (.tmp 8)), none, []⟩,
 ⟨(some 2), (.move (.tmp 9)), none, []⟩] false [2])
 .ret)))
-- simp set: ac92
theorem isF92 : IsFunc Try.prog 92 1 ac92 [.tmp 2] := isFunc_of _ [(0, [0]), (1, [0, 4]), (2, [2]), (3, [2])] Try.func92 (by kernel_rfl)
/-- (*waymark/heap.Heap).least; loop heads: [[0, 1, 5, 6]] -/
def op93_27 : List AOper := [
 ⟨(some 27), (.move (.tmp 0)), none, []⟩,
 ⟨(some 28), (.nilCheck (.tmp 27)), none, [0]⟩,
 ⟨(some 29), (.fieldAddr 0 (.tmp 28)), none, [1]⟩,
 ⟨(some 30), (.load false 1 (.tmp 29)), none, [2]⟩,
 ⟨(some 31), (.move (.tmp 6)), none, []⟩,
 ⟨(some 32), (.indexAddrS 2 (.tmp 30) (.tmp 31)), none, [3, 4]⟩,
 ⟨(some 33), (.load true 2 (.tmp 32)), none, [5]⟩,
 ⟨(some 34), (.move (.tmp 0)), none, []⟩,
 ⟨(some 35), (.nilCheck (.tmp 34)), none, [7]⟩,
 ⟨(some 36), (.fieldAddr 0 (.tmp 35)), none, [8]⟩,
 ⟨(some 37), (.load false 1 (.tmp 36)), none, [9]⟩,
 ⟨(some 38), (.move (.tmp 5)), none, []⟩,
 ⟨(some 39), (.indexAddrS 2 (.tmp 37) (.tmp 38)), none, [10, 11]⟩,
 ⟨(some 40), (.load true 2 (.tmp 39)), none, [12]⟩,
 ⟨(some 41), (.callF 91 [(.tmp 33), (.tmp 40)]), none, [6, 13]⟩]
@[go_sem ↓] theorem op93_27_run {K : AExit → Fr → Store → Prop} {fr : Fr} {σ : Store} : wp Try.prog (.reg op93_27 true [0, 1, 5, 6, 41]) K fr σ = wpOpsD Try.prog (Kreg [0, 1, 5, 6, 41] K) op93_27 (Fr.get fr) σ := wp_draw (by kernel_rfl)
def ac93 : ACode :=
 (.seq
 (.reg [
 ⟨(some 4), (.move (.const (.int .i64 0))), none, []⟩] false [0, 1])
 (.seq
 (.reg [
 ⟨(some 7), (.move (.tmp 1)), none, []⟩,
 ⟨(some 5), (.move (.tmp 7)), none, []⟩] false [0, 1, 5])
 (.seq
 (.seq
 (.reg [
 ⟨(some 8), (.move (.tmp 1)), none, []⟩,
 ⟨(some 9), (.bin .mul (.const (.int .i64 2)) (.tmp 8)), none, []⟩,
 ⟨(some 10), (.bin .add (.tmp 9) (.const (.int .i64 1))), none, []⟩,
 ⟨(some 6), (.move (.tmp 10)), none, []⟩] false [0, 1, 5, 6])
 (.block 0
 (.loop
 (.seq
 (.seq
 (.reg [
 ⟨(some 11), (.move (.tmp 6)), none, []⟩,
 ⟨(some 12), (.move (.tmp 1)), none, []⟩,
 ⟨(some 13), (.bin .mul (.const (.int .i64 2)) (.tmp 12)), none, []⟩,
 ⟨(some 14), (.bin .add (.tmp 13) (.const (.int .i64 2))), none, []⟩,
 ⟨(some 15), (.bin .leq (.tmp 11) (.tmp 14)), none, []⟩,
 ⟨(some 16), (.move (.tmp 15)), none, []⟩,
 ⟨(some 17), (.move (.tmp 6)), (some (16, true)), []⟩,
 ⟨(some 18), (.move (.tmp 0)), (some (16, true)), []⟩,
 ⟨(some 19), (.nilCheck (.tmp 18)), (some (16, true)), []⟩,
 ⟨(some 20), (.fieldAddr 0 (.tmp 19)), (some (16, true)), []⟩,
 ⟨(some 21), (.load false 1 (.tmp 20)), (some (16, true)), []⟩,
 ⟨(some 22), (.lenS (.tmp 21)), (some (16, true)), []⟩,
 ⟨(some 23), (.bin .lss (.tmp 17) (.tmp 22)), (some (16, true)), []⟩,
 ⟨(some 24), (.pick (.tmp 16) (.tmp 23) (.const (.bool false))), none, []⟩] false [0, 1, 5, 6, 24])
 (.cond (.tmp 24)
 .skip
 (.exit 0)))
 (.seq
 (.block 1
 (.seq
 (.reg op93_27 true [0, 1, 5, 6, 41])
 (.cond (.tmp 41)
 (.reg [
 ⟨(some 42), (.move (.tmp 6)), none, []⟩,
 ⟨(some 5), (.move (.tmp 42)), none, []⟩] false [0, 1, 5, 6])
 .skip)))
 (.reg [
 ⟨(some 25), (.move (.tmp 6)), none, []⟩,
 ⟨(some 26), (.bin .add (.tmp 25) (.const (.int .i64 1))), none, []⟩,
 ⟨(some 6), (.move (.tmp 26)), none, []⟩] false [0, 1, 5, 6]))))))
 (.seq
 (.reg [
 ⟨(some 43), (.move (.tmp 5)), none, []⟩,
 ⟨(some 4), (.move (.tmp 43)), none, []⟩] false [4])
 .ret))))
-- simp set: ac93, op93_27
theorem isF93 : IsFunc Try.prog 93 2 ac93 [.tmp 4] := isFunc_of _ [(0, [0, 1]), (1, [0, 1, 5]), (2, [0, 1, 5, 6]), (3, [0, 1, 5, 6, 24]), (5, [0, 1, 5, 6, 41]), (6, [0, 1, 5, 6]), (4, [0, 1, 5, 6]), (7, [4])] Try.func93 (by kernel_rfl)
/-- slices.IndexFunc[[]int,int]; loop heads: [[0, 1, 7, 8]] -/
def ac94 : ACode :=
 (.seq
 (.reg [
 ⟨(some 4), (.move (.const (.int .i64 0))), none, []⟩] false [0, 1])
 (.seq
 (.seq
 (.reg [
 ⟨(some 6), (.move (.tmp 0)), none, []⟩,
 ⟨(some 7), (.lenS (.tmp 6)), none, []⟩,
 ⟨(some 8), (.move (.const (.int .i64 0))), none, []⟩] false [0, 1, 7, 8])
 (.block 0
 (.loop
 (.seq
 (.reg [
 ⟨(some 9), (.bin .lss (.tmp 8) (.tmp 7)), none, []⟩] false [0, 1, 7, 8, 9])
 (.seq
 (.cond (.tmp 9)
 .skip
 (.exit 0))
 (.seq
 (.block 1
 (.seq
 (.reg [
 ⟨(some 10), (.move (.tmp 8)), none, []⟩,
 ⟨(some 5), (.move (.tmp 10)), none, []⟩] false [0, 1, 5, 7, 8])
 (.seq
 (.reg [
 ⟨(some 11), (.move (.tmp 1)), none, []⟩,
 ⟨(some 12), (.move (.tmp 0)), none, []⟩,
 ⟨(some 13), (.move (.tmp 5)), none, []⟩,
 ⟨(some 14), (.indexAddrS 1 (.tmp 12) (.tmp 13)), none, []⟩,
 ⟨(some 15), (.load false 1 (.tmp 14)), none, []⟩,
 ⟨(some 16), (.callV (.tmp 11) [(.tmp 15)]), none, []⟩] false [0, 1, 5, 7, 8, 16])
 (.cond (.tmp 16)
 (.seq
 (.reg [
 ⟨(some 17), (.move (.tmp 5)), none, []⟩,
 ⟨(some 4), (.move (.tmp 17)), none, []⟩] false [4])
 .ret)
 .skip))))
 (.reg [
 ⟨(some 18), (.bin .add (.tmp 8) (.const (.int .i64 1))), none, []⟩,
 ⟨(some 8), (.move (.tmp 18)), none, []⟩] false [0, 1, 7, 8])))))))
 (.seq
 (.reg [
 ⟨(some 4), (.move (.const (.int .i64 (-1)))), none, []⟩] false [4])
 .ret)))
-- simp set: ac94
theorem isF94 : IsFunc Try.prog 94 2 ac94 [.tmp 4] := isFunc_of _ [(0, [0, 1]), (1, [0, 1, 7, 8]), (2, [0, 1, 7, 8, 9]), (3, [0, 1, 5, 7, 8]), (4, [0, 1, 5, 7, 8, 16]), (5, [4]), (6, [0, 1, 7, 8]), (7, [4])] Try.func94 (by kernel_rfl)
/-- slices.Index[[]int,int]; loop heads: [[0, 1, 7, 8]] -/
def ac95 : ACode :=
 (.seq
 (.reg [
 ⟨(some 4), (.move (.const (.int .i64 0))), none, []⟩] false [0, 1])
 (.seq
 (.seq
 (.reg [
 ⟨(some 6), (.move (.tmp 0)), none, []⟩,
 ⟨(some 7), (.lenS (.tmp 6)), none, []⟩,
 ⟨(some 8), (.move (.const (.int .i64 0))), none, []⟩] false [0, 1, 7, 8])
 (.block 0
 (.loop
 (.seq
 (.reg [
 ⟨(some 9), (.bin .lss (.tmp 8) (.tmp 7)), none, []⟩] false [0, 1, 7, 8, 9])
 (.seq
 (.cond (.tmp 9)
 .skip
 (.exit 0))
 (.seq
 (.block 1
 (.seq
 (.reg [
 ⟨(some 10), (.move (.tmp 8)), none, []⟩,
 ⟨(some 5), (.move (.tmp 10)), none, []⟩] false [0, 1, 5, 7, 8])
 (.seq
 (.reg [
 ⟨(some 11), (.move (.tmp 1)), none, []⟩,
 ⟨(some 12), (.move (.tmp 0)), none, []⟩,
 ⟨(some 13), (.move (.tmp 5)), none, []⟩,
 ⟨(some 14), (.indexAddrS 1 (.tmp 12) (.tmp 13)), none, []⟩,
 ⟨(some 15), (.load false 1 (.tmp 14)), none, []⟩,
 ⟨(some 16), (.bin .eql (.tmp 11) (.tmp 15)), none, []⟩] false [0, 1, 5, 7, 8, 16])
 (.cond (.tmp 16)
 (.seq
 (.reg [
 ⟨(some 17), (.move (.tmp 5)), none, []⟩,
 ⟨(some 4), (.move (.tmp 17)), none, []⟩] false [4])
 .ret)
 .skip))))
 (.reg [
 ⟨(some 18), (.bin .add (.tmp 8) (.const (.int .i64 1))), none, []⟩,
 ⟨(some 8), (.move (.tmp 18)), none, []⟩] false [0, 1, 7, 8])))))))
 (.seq
 (.reg [
 ⟨(some 4), (.move (.const (.int .i64 (-1)))), none, []⟩] false [4])
 .ret)))
-- simp set: ac95
theorem isF95 : IsFunc Try.prog 95 2 ac95 [.tmp 4] := isFunc_of _ [(0, [0, 1]), (1, [0, 1, 7, 8]), (2, [0, 1, 7, 8, 9]), (3, [0, 1, 5, 7, 8]), (4, [0, 1, 5, 7, 8, 16]), (5, [4]), (6, [0, 1, 7, 8]), (7, [4])] Try.func95 (by kernel_rfl)
end Go.Proofs

set_option linter.unusedSimpArgs false
namespace Go.Proofs
open Go.Ab

structure Lk where
  a : Int
  b : Int
  m : Int
  c : Int
def Lk.row (l : Lk) : List AVal := [.sc (.int .i64 l.a), .sc (.int .i64 l.b), .sc (.int .i64 l.m), .sc (.int .i64 l.c)]
structure Gr where
  n : Int
  ls : List Lk
def Gr.val (g : Gr) : AVal := .agg [.sc (.int .i64 g.n), .lst (g.ls.map Lk.row)]

theorem is_ok (n : Int) (ls : AVal) (x : Int) : PGood Try.prog 28 [.agg [.i n, ls], .i x] (.b (decide (0 ≤ x ∧ x < n))) := by
  refine pgood_of_out 1 (good_of_wp isF28 (Nat.le_refl _) ?_)
  unfold ac28
  simp only [go_sem, simprocAttr]
  intro id hid
  simp only [go_sem, simprocAttr]
  refine .intro (fun h => ?_) (fun h => ?_)
  · simp only [go_sem, simprocAttr, h]
    exact out_sc
  · simp only [go_sem, simprocAttr, h]
    exact out_sc

def Gr.ends (g : Gr) (e : Int) : Int × Int × Bool :=
  if e < 0 ∨ (g.ls.length : Int) ≤ e / 2 then (0, 0, false) else match g.ls[(e / 2).toNat]? with
    | some l => if e % 2 = 1 then (l.b, l.a, true) else (l.a, l.b, true)
    | none => (0, 0, false)

theorem ends_ok (g : Gr) (e : Int) (he : e < 9223372036854775808) : PGood Try.prog 63 [g.val, .i e] (.tup [.i (g.ends e).1, .i (g.ends e).2.1, .b (g.ends e).2.2]) := by
  refine pgood_of_out 2 (good_of_wp isF63 (Nat.le_refl _) ?_)
  unfold ac63
  simp only [go_sem, simprocAttr, Gr.val]
  intro id hid
  simp only [go_sem, simprocAttr]
  refine .intro (fun h => ?_) (fun h => ?_)
  · simp only [go_sem, simprocAttr, h]
    have e1 : g.ends e = (0, 0, false) := by unfold Gr.ends; rw [if_pos (.inl h)]
    rw [e1]
    exact out_tup3 out_sc out_sc out_sc
  · have hq : IntKind.i64.wrap (e.tdiv 2) = e / 2 := by
      rw [Int.tdiv_eq_ediv_of_nonneg (by omega)]
      exact wrap_id (by omega) (by omega)
    have hr : e.tmod 2 = e % 2 := Int.tmod_eq_emod_of_nonneg (by omega)
    simp only [go_sem, simprocAttr, h, hq, hr]
    refine .intro (fun h2 => ?_) (fun h2 => ?_)
    · simp only [go_sem, simprocAttr, h, h2]
      have e1 : g.ends e = (0, 0, false) := by unfold Gr.ends; rw [if_pos (.inr h2)]
      rw [e1]
      exact out_tup3 out_sc out_sc out_sc
    · have hlt : (e / 2).toNat < g.ls.length := by omega
      have hx : (g.ls.map Lk.row)[(e / 2).toNat]? = some (g.ls[(e / 2).toNat]).row := by simp [hlt]
      have hn : (0 : Int) ≤ e / 2 := by omega
      have e1 : g.ends e = if e % 2 = 1 then ((g.ls[(e / 2).toNat]).b, (g.ls[(e / 2).toNat]).a, true) else ((g.ls[(e / 2).toNat]).a, (g.ls[(e / 2).toNat]).b, true) := by
        unfold Gr.ends; rw [if_neg (by omega), List.getElem?_eq_getElem hlt]
      generalize g.ls[(e / 2).toNat] = l at *
      simp only [go_sem, simprocAttr, h, h2, hq, hr, hx, hn, Lk.row]
      intro id2 hid2
      simp only [go_sem, simprocAttr, hr]
      refine .intro (fun h3 => ?_) (fun h3 => ?_)
      · simp only [go_sem, simprocAttr, h3, op63_27]
        rw [e1, if_pos h3]
        exact out_tup3 out_sc out_sc out_sc
      · simp only [go_sem, simprocAttr, h3, op63_31]
        rw [e1, if_neg h3]
        exact out_tup3 out_sc out_sc out_sc

end Go.Proofs

set_option linter.unusedSimpArgs false
namespace Go.Proofs
open Go.Ab

def Gr.outN (g : Gr) (x : Int) (k : Nat) : List Int := (List.range k).filterMap fun (e : Nat) => if (g.ends (e : Int)).1 = x then some (e : Int) else none
def Gr.out (g : Gr) (x : Int) : List Int := g.outN x (2 * g.ls.length)
theorem Gr.outN_succ (g : Gr) (x : Int) (k : Nat) : g.outN x (k + 1) = if (g.ends (k : Int)).1 = x then g.outN x k ++ [(k : Int)] else g.outN x k := by
  unfold Gr.outN
  rw [List.range_succ, List.filterMap_append]
  by_cases h : (g.ends (k : Int)).1 = x <;> simp [h]
theorem Gr.outN_len (g : Gr) (x : Int) (k : Nat) : (g.outN x k).length ≤ k := by
  have := List.length_filterMap_le (fun e : Nat => if (g.ends (e : Int)).1 = x then some (e : Int) else none) (List.range k)
  simpa [Gr.outN] using this

theorem out_ok (g : Gr) (x : Int) (hg : g.ls.length ≤ 1000000) : PGood Try.prog 62 [g.val, .i x] (.lst (ints (g.out x))) := by
  refine pgood_of_out 2 (good_of_wp isF62 (Nat.le_refl _) ?_)
  unfold ac62
  simp only [go_sem, simprocAttr, Gr.val]
  intro id hid
  have hw : IntKind.i64.wrap (2 * (g.ls.length : Int)) = 2 * (g.ls.length : Int) := wrap_id (by omega) (by omega)
  simp only [go_sem, simprocAttr, hw]
  refine loop_rule (fun m fr σ => ∃ (i : Nat) (v : AVal), i ≤ 2 * g.ls.length ∧ m = 2 * g.ls.length - i ∧ fr = [(1, .i x), (2, .ptr id 0 0 0), (5, v), (13, .i (2 * g.ls.length)), (14, .i i)] ∧
    σ.get id = some (.row 0 false 2 [[.sc (.int .i64 g.n), .lst (g.ls.map Lk.row)]]) ∧ Acc σ 1 v (ints (g.outN x i)) [id]) (2 * g.ls.length) ⟨0, .nils, by omega, rfl, rfl, by simp, acc_nils (alive_cons (Store.get_set_self _ _ _) alive_nil)⟩ ?_
  rintro m fr σ ⟨i, v, h1, rfl, rfl, h2, h3⟩
  simp only [go_sem, simprocAttr]
  refine .intro (fun h => ?_) (fun h => ?_)
  · simp only [go_sem, simprocAttr, rowAt_of h2]
    refine good_imm (ends_ok g i (by omega)) rfl ?_
    simp only [go_sem, simprocAttr]
    have hw2 : IntKind.i64.wrap ((i : Int) + 1) = ((i + 1 : Nat) : Int) := by rw [wrap_id (by omega) (by omega)]; rfl
    refine .intro (fun h4 => ?_) (fun h4 => ?_)
    · simp only [go_sem, simprocAttr]
      intro id2 hid2
      simp only [go_sem, simprocAttr]
      have hlen := g.outN_len x i
      refine acc_append (h3.fresh hid2 _) (by simp only [ints_len, List.length_cons, List.length_nil]; omega) (by simp only [ints_len, List.length_cons, List.length_nil]; omega) fun v' σ' k1 k2 => ?_
      simp only [go_sem, simprocAttr, hw2]
      refine back_of _ ?_ ⟨i + 1, v', by omega, rfl, rfl, ?_, ?_⟩
      · omega
      · rw [k2 id (by simp), get_fresh hid2 (by rw [h2]; rfl), h2]
      · rw [Gr.outN_succ, if_pos h4, ints_app]
        exact k1.less (by simp)
    · simp only [go_sem, simprocAttr, hw2]
      refine back_of _ ?_ ⟨i + 1, v, by omega, rfl, rfl, h2, ?_⟩
      · omega
      · rw [Gr.outN_succ, if_neg h4]; exact h3
  · simp only [go_sem, simprocAttr]
    have e : i = 2 * g.ls.length := by omega
    subst e
    exact acc_out h3 (ints_sc _)
end Go.Proofs
namespace Go.Proofs
open Go.Ab

theorem sub_out {σ : Store} {m : Nat} {v r r' : AVal} (h : Out m σ v r) (e : r = r') : Out m σ v r' := e ▸ h

def Gr.linkErr (g : Gr) (l : Lk) : Int := if ¬ (0 ≤ l.a ∧ l.a < g.n) ∨ ¬ (0 ≤ l.b ∧ l.b < g.n) ∨ l.a = l.b then 4 else if l.m < 1 ∨ 16777216 < l.m ∨ l.c < 0 ∨ 62 < l.c then 1 else 0

theorem link_ok (g : Gr) (l : Lk) : PGood Try.prog 59 [g.val, .agg l.row] (.i (g.linkErr l)) := by
  refine pgood_of_out 1 (good_of_wp isF59 (Nat.le_refl _) ?_)
  unfold ac59
  simp only [go_sem, simprocAttr, Gr.val, Lk.row]
  intro id hid
  simp only [go_sem, simprocAttr]
  intro id2 hid2
  simp only [go_sem, simprocAttr, rowAt_fresh hid2]
  refine good_imm (is_ok g.n (.lst (g.ls.map Lk.row)) l.a) rfl ?_
  simp only [go_sem, simprocAttr]
  by_cases h1 : 0 ≤ l.a ∧ l.a < g.n
  · simp only [go_sem, simprocAttr, h1, rowAt_fresh hid2]
    refine good_imm (is_ok g.n (.lst (g.ls.map Lk.row)) l.b) rfl ?_
    by_cases h2 : 0 ≤ l.b ∧ l.b < g.n
    · simp only [go_sem, simprocAttr, h2]
      refine .intro (fun h3 => ?_) (fun h3 => ?_)
      · simp only [go_sem, simprocAttr, h3]
        refine sub_out out_sc ?_
        simp [Gr.linkErr, h3]
      · simp only [go_sem, simprocAttr]
        by_cases h4 : l.m < 1
        · simp only [go_sem, simprocAttr, h4]
          refine sub_out out_sc ?_
          simp [Gr.linkErr, h1, h2, h3, h4]
        · simp only [go_sem, simprocAttr, h4]
          by_cases h5 : 16777216 < l.m
          · simp only [go_sem, simprocAttr, h5]
            refine sub_out out_sc ?_
            simp [Gr.linkErr, h1, h2, h3, h4, h5]
          · simp only [go_sem, simprocAttr, h5]
            by_cases h6 : l.c < 0
            · simp only [go_sem, simprocAttr, h6]
              refine sub_out out_sc ?_
              simp [Gr.linkErr, h1, h2, h3, h4, h5, h6]
            · simp only [go_sem, simprocAttr, h6]
              by_cases h7 : 62 < l.c
              · simp only [go_sem, simprocAttr, h7]
                refine sub_out out_sc ?_
                simp [Gr.linkErr, h1, h2, h3, h4, h5, h6, h7]
              · simp only [go_sem, simprocAttr, h7]
                refine sub_out out_sc ?_
                simp [Gr.linkErr, h1, h2, h3, h4, h5, h6, h7]
    · simp only [go_sem, simprocAttr, h2]
      refine sub_out out_sc ?_
      simp only [Gr.linkErr, h1, h2]
      simp
  · simp only [go_sem, simprocAttr, h1]
    refine sub_out out_sc ?_
    simp only [Gr.linkErr, h1]
    simp
end Go.Proofs

set_option linter.unusedSimpArgs false
set_option linter.unusedVariables false
namespace Go.Proofs
open Go.Ab

def Gr.firstBad (g : Gr) : List Lk → Nat → Int × Int
  | [], _ => (-1, 0)
  | l :: r, i => if g.linkErr l = 0 then g.firstBad r (i + 1) else ((i : Int), g.linkErr l)
def Gr.check (g : Gr) : Int × Int := if 120 < g.ls.length then (-1, 6) else if g.n < 1 ∨ 40 < g.n then (-1, 1) else g.firstBad g.ls 0
def Gr.Ok (g : Gr) : Prop := g.ls.length ≤ 120 ∧ 1 ≤ g.n ∧ g.n ≤ 40 ∧ ∀ l ∈ g.ls, g.linkErr l = 0

theorem Gr.firstBad_ok (g : Gr) : ∀ (ls : List Lk) (i : Nat), (g.firstBad ls i).2 = 0 ↔ ∀ l ∈ ls, g.linkErr l = 0
  | [], i => by simp [Gr.firstBad]
  | l :: r, i => by
    unfold Gr.firstBad
    by_cases h : g.linkErr l = 0
    · rw [if_pos h, g.firstBad_ok r (i + 1)]
      simp [h]
    · rw [if_neg h]
      simp [h]
theorem Gr.check_ok (g : Gr) : g.check.2 = 0 ↔ g.Ok := by
  unfold Gr.check Gr.Ok
  by_cases h1 : 120 < g.ls.length
  · rw [if_pos h1]; simp; omega
  · rw [if_neg h1]
    by_cases h2 : g.n < 1 ∨ 40 < g.n
    · rw [if_pos h2]; simp; omega
    · rw [if_neg h2, g.firstBad_ok]
      constructor
      · exact fun h => ⟨by omega, by omega, by omega, h⟩
      · exact fun h => h.2.2.2

theorem check_ok (g : Gr) : PGood Try.prog 35 [g.val] (.tup [.i g.check.1, .i g.check.2]) := by
  refine pgood_of_out 2 (good_of_wp isF35 (Nat.le_refl _) ?_)
  unfold ac35
  simp only [go_sem, simprocAttr, Gr.val]
  intro id hid
  simp only [go_sem, simprocAttr]
  refine .intro (fun h1 => ?_) (fun h1 => ?_)
  · simp only [go_sem, simprocAttr]
    have e : g.check = (-1, 6) := by unfold Gr.check; rw [if_pos (by omega)]
    rw [e]
    exact out_tup2 out_sc out_sc
  simp only [go_sem, simprocAttr]
  by_cases h2 : g.n < 1
  · simp only [go_sem, simprocAttr, h2]
    have e : g.check = (-1, 1) := by unfold Gr.check; rw [if_neg (by omega), if_pos (.inl h2)]
    rw [e]
    exact out_tup2 out_sc out_sc
  simp only [go_sem, simprocAttr, h2]
  refine .intro (fun h3 => ?_) (fun h3 => ?_)
  · simp only [go_sem, simprocAttr]
    have e : g.check = (-1, 1) := by unfold Gr.check; rw [if_neg (by omega), if_pos (.inr h3)]
    rw [e]
    exact out_tup2 out_sc out_sc
  simp only [go_sem, simprocAttr]
  have e0 : g.check = g.firstBad g.ls 0 := by unfold Gr.check; rw [if_neg (by omega), if_neg (by omega)]
  refine loop_rule (fun m fr σ => ∃ (i : Nat), i ≤ g.ls.length ∧ m = g.ls.length - i ∧ fr = [(1, .ptr id 0 0 0), (22, .lst (g.ls.map Lk.row)), (23, .i (g.ls.length)), (24, .i i)] ∧
    σ.get id = some (.row 0 false 2 [[.sc (.int .i64 g.n), .lst (g.ls.map Lk.row)]]) ∧ g.check = g.firstBad (g.ls.drop i) i) g.ls.length ⟨0, by omega, rfl, rfl, by simp, e0⟩ ?_
  rintro m fr σ ⟨i, h4, rfl, rfl, h5, h6⟩
  simp only [go_sem, simprocAttr]
  refine .intro (fun h => ?_) (fun h => ?_)
  · have hlt : i < g.ls.length := by omega
    have hx : (g.ls.map Lk.row)[i]? = some (g.ls[i]).row := by simp [hlt]
    have hn : (0 : Int) ≤ i := by omega
    have hd : g.ls.drop i = g.ls[i] :: g.ls.drop (i + 1) := List.drop_eq_getElem_cons hlt
    rw [hd] at h6
    have hrow : (g.ls[i]).row.length = 4 := rfl
    generalize g.ls[i] = l at *
    simp only [go_sem, simprocAttr, hx, hn, hrow, List.take_length]
    have ht : l.row.take 4 = l.row := rfl
    simp only [go_sem, simprocAttr, ht]
    intro id2 hid2
    simp only [go_sem, simprocAttr, hrow, rowAt_fresh hid2, rowAt_of h5, h5]
    have hr : Ab.rowAt σ id 0 = some (false, 2, [[.sc (.int .i64 g.n), .lst (g.ls.map Lk.row)]]) := by rw [rowAt_of h5]; rfl
    rw [ht]
    refine good_imm (link_ok g l) rfl ?_
    simp only [go_sem, simprocAttr]
    have hw2 : IntKind.i64.wrap ((i : Int) + 1) = ((i + 1 : Nat) : Int) := by rw [wrap_id (by omega) (by omega)]; rfl
    refine .intro (fun h7 => ?_) (fun h7 => ?_)
    · simp only [go_sem, simprocAttr, hw2]
      refine back_of _ ?_ ⟨i + 1, by omega, rfl, rfl, ?_, ?_⟩
      · omega
      · rw [get_fresh hid2 (by rw [h5]; rfl), h5]
      · rw [h6]
        simp only [Gr.firstBad, h7, if_true]
    · simp only [go_sem, simprocAttr]
      rw [h6]
      simp only [Gr.firstBad, h7, if_false]
      exact out_tup2 out_sc out_sc
  · simp only [go_sem, simprocAttr]
    have e : i = g.ls.length := by omega
    subst e
    rw [h6, List.drop_length]
    exact out_tup2 out_sc out_sc

theorem right_ok (g : Gr) : PGood Try.prog 61 [g.val] (.b (decide (g.check.2 = 0))) := by
  refine pgood_of_out 1 (good_of_wp isF61 (Nat.le_refl _) ?_)
  unfold ac61
  simp only [go_sem, simprocAttr, Gr.val]
  intro id hid
  simp only [go_sem, simprocAttr]
  refine good_imm (check_ok g) rfl ?_
  simp only [go_sem, simprocAttr]
  exact out_sc

def isUp (down : List Bool) (e : Int) : Bool := decide ((down.length : Int) ≤ e / 2) || !(down.getD (e / 2).toNat false)
theorem up_ok (down : List Bool) (e : Int) (h0 : 0 ≤ e) (h1 : e < 9223372036854775808) : PGood Try.prog 51 [.lst (bools down), .i e] (.b (isUp down e)) := by
  refine pgood_of_out 1 (good_of_wp isF51 (Nat.le_refl _) ?_)
  unfold ac51
  have hq : IntKind.i64.wrap (e.tdiv 2) = e / 2 := by
    rw [Int.tdiv_eq_ediv_of_nonneg (by omega)]
    exact wrap_id (by omega) (by omega)
  simp only [go_sem, simprocAttr, hq]
  by_cases h : (down.length : Int) ≤ e / 2
  · simp only [go_sem, simprocAttr, h]
    refine sub_out out_sc ?_
    simp [isUp, h]
  · have hlt : (e / 2).toNat < down.length := by omega
    have hx : (bools down)[(e / 2).toNat]? = some [.sc (.bool down[(e / 2).toNat])] := bools_get (List.getElem?_eq_getElem hlt)
    have hn : 0 ≤ e / 2 := by omega
    simp only [go_sem, simprocAttr, h, hq, hx, hn]
    refine sub_out out_sc ?_
    simp [isUp, h, hlt]

theorem ahead_ok (a b c d : Int) : PGood Try.prog 91 [.agg [.i a, .i b], .agg [.i c, .i d]] (.b (decide (a < c ∨ a = c ∧ b < d))) := by
  refine pgood_of_out 1 (good_of_wp isF91 (Nat.le_refl _) ?_)
  unfold ac91
  simp only [go_sem, simprocAttr]
  intro id hid
  simp only [go_sem, simprocAttr]
  intro id2 hid2
  simp only [go_sem, simprocAttr, rowAt_fresh hid2]
  by_cases h1 : a < c
  · simp only [go_sem, simprocAttr, h1]
    refine sub_out out_sc ?_
    simp
  · simp only [go_sem, simprocAttr, h1, rowAt_fresh hid2]
    by_cases h2 : a = c
    · subst h2
      simp only [go_sem, simprocAttr, rowAt_fresh hid2]
      refine sub_out out_sc ?_
      simp
    · simp only [go_sem, simprocAttr, h2]
      refine sub_out out_sc ?_
      simp
end Go.Proofs

set_option linter.unusedSimpArgs false
set_option linter.unusedVariables false
namespace Go.Proofs
open Go.Ab

/-! ### The heap -/
def pairs (l : List (Int × Int)) : List (List AVal) := l.map fun p => [.sc (.int .i64 p.1), .sc (.int .i64 p.2)]
@[go_sem] theorem pairs_len (l : List (Int × Int)) : (pairs l).length = l.length := by simp [pairs]
theorem pairs_get {l : List (Int × Int)} {i : Nat} {p : Int × Int} (h : l[i]? = some p) : (pairs l)[i]? = some [.sc (.int .i64 p.1), .sc (.int .i64 p.2)] := by simp [pairs, h]
theorem pairs_set (l : List (Int × Int)) (i : Nat) (p : Int × Int) : pairs (l.set i p) = (pairs l).set i [.sc (.int .i64 p.1), .sc (.int .i64 p.2)] := by simp [pairs]
theorem pairs_app (l m : List (Int × Int)) : pairs (l ++ m) = pairs l ++ pairs m := by simp [pairs]
@[go_sem] theorem pairs_all (l : List (Int × Int)) : (pairs l).all (·.length == 2) = true := by simp [pairs]
abbrev lt2 (p q : Int × Int) : Prop := p.1 < q.1 ∨ p.1 = q.1 ∧ p.2 < q.2

theorem hlen_ok (l : List (Int × Int)) : PGood Try.prog 92 [.iptr [.lst (pairs l)] 0] (.i l.length) := by
  refine pgood_of_out 1 (good_of_wp isF92 (Nat.le_refl _) ?_)
  unfold ac92
  simp only [go_sem, simprocAttr]
  exact out_sc

def better (l : List (Int × Int)) (b k : Nat) : Nat := if k < l.length ∧ lt2 (l.getD k (0, 0)) (l.getD b (0, 0)) then k else b
def leastOf (l : List (Int × Int)) (i : Nat) : Nat := better l (better l i (2 * i + 1)) (2 * i + 2)
theorem better_lt {l : List (Int × Int)} {b k : Nat} (h : b < l.length) : better l b k < l.length := by
  unfold better
  split
  · rename_i h; exact h.1
  · exact h

theorem better_ge {l : List (Int × Int)} {b k : Nat} (h : ¬ k < l.length) : better l b k = b := by
  unfold better
  rw [if_neg (fun x => h x.1)]

theorem least_ok (l : List (Int × Int)) (i : Nat) (hl : l.length < 1000000000) (hi : i < 1000000000) : PGood Try.prog 93 [.iptr [.lst (pairs l)] 0, .i i] (.i (leastOf l i)) := by
  refine pgood_of_out 1 (good_of_wp isF93 (Nat.le_refl _) ?_)
  unfold ac93
  have w1 : IntKind.i64.wrap (2 * (i : Int)) = 2 * i := wrap_id (by omega) (by omega)
  have w2 : IntKind.i64.wrap (2 * (i : Int) + 1) = 2 * i + 1 := wrap_id (by omega) (by omega)
  have w3 : IntKind.i64.wrap (2 * (i : Int) + 2) = 2 * i + 2 := wrap_id (by omega) (by omega)
  simp only [go_sem, simprocAttr, w1, w2]
  refine loop_rule (fun m fr σ => ∃ (k b : Nat), (k = 2 * i + 1 ∧ b = i ∨ k = 2 * i + 2 ∧ b = better l i (2 * i + 1) ∨ k = 2 * i + 3 ∧ b = leastOf l i) ∧ m = 2 * i + 3 - k ∧ fr = [(0, .iptr [.lst (pairs l)] 0), (1, .i i), (5, .i b), (6, .i k)] ∧ (k ≤ l.length → i < l.length → b < l.length)) 2
    ⟨2 * i + 1, i, .inl ⟨rfl, rfl⟩, by omega, by simp, by omega⟩ ?_
  rintro m fr σ ⟨k, b, hk, rfl, rfl, hb⟩
  have fin : (¬ k ≤ 2 * i + 2 ∨ ¬ k < l.length) → b = leastOf l i := by
    intro h
    rcases hk with ⟨h1, h2⟩ | ⟨h1, h2⟩ | ⟨h1, h2⟩
    · have : ¬ k < l.length := by omega
      rw [h2]; unfold leastOf
      rw [better_ge (by omega), better_ge (by omega)]
    · have : ¬ k < l.length := by omega
      rw [h2]
      exact (better_ge (by omega)).symm
    · exact h2
  simp only [go_sem, simprocAttr, w1, w3]
  by_cases h1 : (k : Int) ≤ 2 * i + 2
  · simp only [go_sem, simprocAttr, h1]
    refine .intro (fun h2 => ?_) (fun h2 => ?_)
    · have hkl : k < l.length := by omega
      have hbl : b < l.length := hb (by omega) (by omega)
      have x1 : (pairs l)[k]? = some [.sc (.int .i64 (l.getD k (0, 0)).1), .sc (.int .i64 (l.getD k (0, 0)).2)] := pairs_get (by simp [hkl])
      have x2 : (pairs l)[b]? = some [.sc (.int .i64 (l.getD b (0, 0)).1), .sc (.int .i64 (l.getD b (0, 0)).2)] := pairs_get (by simp [hbl])
      have n1 : (0 : Int) ≤ k := by omega
      have n2 : (0 : Int) ≤ b := by omega
      have w4 : IntKind.i64.wrap ((k : Int) + 1) = ((k + 1 : Nat) : Int) := by rw [wrap_id (by omega) (by omega)]; rfl
      simp only [go_sem, simprocAttr, op93_27, x1, x2, n1, n2]
      refine goodD_imm (ahead_ok _ _ _ _) rfl ?_
      simp only [go_sem, simprocAttr]
      have step : (k + 1 = 2 * i + 1 ∧ better l b k = i ∨ k + 1 = 2 * i + 2 ∧ better l b k = better l i (2 * i + 1) ∨ k + 1 = 2 * i + 3 ∧ better l b k = leastOf l i) := by
        rcases hk with ⟨h1, h2⟩ | ⟨h1, h2⟩ | ⟨h1, h2⟩
        · refine .inr (.inl ⟨by omega, by rw [h1, h2]⟩)
        · refine .inr (.inr ⟨by omega, by rw [h1, h2]; rfl⟩)
        · omega
      refine .intro (fun h3 => ?_) (fun h3 => ?_)
      · have e : better l b k = k := by unfold better; rw [if_pos ⟨hkl, h3⟩]
        rw [e] at step
        simp only [go_sem, simprocAttr, w4]
        exact back_of _ (by omega) ⟨k + 1, k, step, rfl, rfl, by omega⟩
      · have e : better l b k = b := by unfold better; rw [if_neg (fun h => h3 h.2)]
        rw [e] at step
        simp only [go_sem, simprocAttr, w4]
        exact back_of _ (by omega) ⟨k + 1, b, step, rfl, rfl, by omega⟩
    · simp only [go_sem, simprocAttr]
      rw [fin (.inr (by omega))]
      exact out_sc
  · simp only [go_sem, simprocAttr, h1]
    rw [fin (.inl (by omega))]
    exact out_sc
end Go.Proofs

set_option linter.unusedSimpArgs false
set_option linter.unusedVariables false
namespace Go.Proofs
open Go.Ab

def hg (l : List (Int × Int)) (i : Nat) : Int × Int := l.getD i (0, 0)
def hswap (l : List (Int × Int)) (i j : Nat) : List (Int × Int) := (l.set i (hg l j)).set j (hg l i)
def siftUp : Nat → List (Int × Int) → Nat → List (Int × Int)
  | 0, l, _ => l
  | f + 1, l, i => if i = 0 then l else if lt2 (hg l i) (hg l ((i - 1) / 2)) then siftUp f (hswap l i ((i - 1) / 2)) ((i - 1) / 2) else l
theorem hswap_len (l : List (Int × Int)) (i j : Nat) : (hswap l i j).length = l.length := by simp [hswap]
theorem siftUp_len : ∀ (f : Nat) (l : List (Int × Int)) (i : Nat), (siftUp f l i).length = l.length
  | 0, l, i => rfl
  | f + 1, l, i => by
    unfold siftUp
    split
    · rfl
    · split
      · rw [siftUp_len f, hswap_len]
      · rfl
theorem siftUp_fuel : ∀ (f : Nat) (l : List (Int × Int)) (i : Nat), i < f → siftUp f l i = siftUp (i + 1) l i
  | 0, l, i, h => by omega
  | f + 1, l, i, h => by
    unfold siftUp
    by_cases h0 : i = 0
    · rw [if_pos h0, if_pos h0]
    · rw [if_neg h0, if_neg h0]
      by_cases h1 : lt2 (hg l i) (hg l ((i - 1) / 2))
      · rw [if_pos h1, if_pos h1, siftUp_fuel f _ _ (by omega)]
        by_cases h2 : i = f
        · subst h2
          exact (siftUp_fuel i _ _ (by omega)).symm
        · exact (siftUp_fuel i _ _ (by omega)).symm
      · rw [if_neg h1, if_neg h1]
theorem hg_row {l : List (Int × Int)} {i : Nat} (h : i < l.length) : (pairs l)[i]? = some [.sc (.int .i64 (hg l i).1), .sc (.int .i64 (hg l i).2)] := pairs_get (by simp [hg, h])

/-- The heap's object: a row of one slice. -/
def HeapAt (σ : Store) (hp : Nat) (l : List (Int × Int)) (others : List Nat) : Prop := hp ∉ others ∧ ∃ v, σ.get hp = some (.row 0 false 1 [[v]]) ∧ Acc σ 2 v (pairs l) (hp :: others)

theorem rowAt_get {σ : Store} {id v : Nat} {fz : Bool} {sz : Nat} {xs : List (List AVal)} (h : σ.get id = some (.row v fz sz xs)) : Ab.rowAt σ id v = some (fz, sz, xs) := by rw [rowAt_of h, if_pos rfl]

theorem push_ok (σ : Store) (hp : Nat) (l : List (Int × Int)) (others : List Nat) (k x : Int) (h : HeapAt σ hp l others) (hl : l.length < 1000000000) :
    Ab.Good Try.prog 77 [.ptr hp 0 0 0, .i k, .i x] σ (fun r σ' => HeapAt σ' hp (siftUp (l.length + 1) (l ++ [(k, x)]) l.length) others ∧ ∀ j ∈ others, σ'.get j = σ.get j) := by
  refine good_of_wp isF77 (Nat.le_refl _) ?_
  unfold ac77
  obtain ⟨h0, v, h1, h2⟩ := h
  have r1 := rowAt_get h1
  simp only [go_sem, simprocAttr, r1]
  intro id hid
  have hne : hp ≠ id := fun e => by rw [e, hid] at h1; cases h1
  simp only [go_sem, simprocAttr, r1]
  refine acc_append (h2.fresh hid _) (by simp only [pairs_len, List.length_cons, List.length_nil]; omega) (by simp only [pairs_len, List.length_cons, List.length_nil]; omega) fun v' σ' k1 k2 => ?_
  have g1 : σ'.get hp = some (.row 0 false 1 [[v]]) := by rw [k2 hp (by simp), Store.get_set_ne _ _ hne, h1]
  have r2 := rowAt_get g1
  have hlen : (pairs l ++ [[AVal.i k, AVal.i x]]) = pairs (l ++ [(k, x)]) := by simp [pairs]
  rw [hlen] at k1
  have k3 := (k1.less (o2 := hp :: others) (fun y hy => by simp [hy])).other (id := hp) (by simp) (.row 0 false 1 [[v']])
  have k4 := k1.known
  have k5 := k3.len
  have w1 : IntKind.i64.wrap (((l.length + 1 : Nat) : Int) - 1) = (l.length : Int) := by rw [wrap_id (by omega) (by omega)]; omega
  simp only [go_sem, simprocAttr, r2, k4, k5, pairs_len, w1]
  have alive : Alive σ' others := fun j hj => k1.1 j (by simp [hj])
  have frame : ∀ j ∈ others, (σ'.set hp (.row 0 false 1 [[v']])).get j = σ.get j := fun j hj => by
    rw [Store.get_set_ne _ _ (fun e : j = hp => h0 (by rw [← e]; exact hj)), k2 j (by simp [hj]), get_fresh hid (h2.1 j (by simp [hj]))]
  refine loop_rule (fun m fr σ2 => ∃ (i : Nat) (l2 : List (Int × Int)), m = i ∧ fr = [(0, .ptr hp 0 0 0), (6, .i i)] ∧ i < l2.length ∧ l2.length = l.length + 1 ∧ HeapAt σ2 hp l2 others ∧ (∀ j ∈ others, σ2.get j = σ.get j) ∧ siftUp (i + 1) l2 i = siftUp (l.length + 1) (l ++ [(k, x)]) l.length)
    l.length ⟨l.length, l ++ [(k, x)], rfl, rfl, by simp, by simp, ⟨h0, v', by simp, k3⟩, frame, rfl⟩ ?_
  rintro m fr σ2 ⟨i, l2, rfl, rfl, hi, hl2, ⟨_, v2, q1, q2⟩, q3, q4⟩
  simp only [go_sem, simprocAttr]
  refine .intro (fun h3 => ?_) (fun h3 => ?_)
  · have w2 : IntKind.i64.wrap ((m : Int) - 1) = ((m - 1 : Nat) : Int) := by rw [wrap_id (by omega) (by omega)]; omega
    have w3 : IntKind.i64.wrap (((m - 1 : Nat) : Int).tdiv 2) = (((m - 1) / 2 : Nat) : Int) := by
      rw [Int.tdiv_eq_ediv_of_nonneg (by omega), wrap_id (by omega) (by omega)]; omega
    obtain ⟨id3, ver, off, xs, rfl, at2⟩ := q2.at (by rw [pairs_len]; omega)
    have r3 := rowAt_get q1
    have r4 := at2.row
    have x1 := at2.get (hg_row hi)
    have hp2 : (m - 1) / 2 < l2.length := by omega
    have x2 := at2.get (hg_row hp2)
    have n1 : (0 : Int) ≤ m := by omega
    have n2 : (0 : Int) ≤ (((m - 1) / 2 : Nat) : Int) := by omega
    have n3 : (m : Int) < l2.length := by omega
    have n4 : (((m - 1) / 2 : Nat) : Int) < l2.length := by omega
    simp only [go_sem, simprocAttr, w2, w3]
    unfold op77_33
    simp only [go_sem, simprocAttr, r3, r4, n1, n2, n3, n4, x1, x2]
    refine goodD_imm (ahead_ok _ _ _ _) rfl ?_
    simp only [go_sem, simprocAttr]
    have hm : m ≠ 0 := by omega
    refine .intro (fun h4 => ?_) (fun h4 => ?_)
    · simp only [go_sem, simprocAttr]
      unfold op77_49
      have hne2 : ¬ (off + m = off + (m - 1) / 2) := by omega
      have c1 := at2.write m [.sc (.int .i64 (hg l2 ((m - 1) / 2)).1), .sc (.int .i64 (hg l2 ((m - 1) / 2)).2)] (by rw [pairs_len]; exact hi)
      have x3 : (xs.set (off + m) [.sc (.int .i64 (hg l2 ((m - 1) / 2)).1), .sc (.int .i64 (hg l2 ((m - 1) / 2)).2)])[off + (m - 1) / 2]? = some [.sc (.int .i64 (hg l2 ((m - 1) / 2)).1), .sc (.int .i64 (hg l2 ((m - 1) / 2)).2)] := by
        rw [List.getElem?_set_ne hne2]; exact x2
      have c2 := c1.write ((m - 1) / 2) [.sc (.int .i64 (hg l2 m).1), .sc (.int .i64 (hg l2 m).2)] (by rw [List.length_set, pairs_len]; exact hp2)
      have hne3 : hp ≠ id3 := at2.ne (by simp)
      simp only [go_sem, simprocAttr, r3, r4, n1, n2, n3, n4, x1, x2, x3, rowAt_ne hne3]
      rw [← pairs_set, ← pairs_set] at c2
      simp only [Store.set_set] at c2
      refine back_of _ ?_ ⟨(m - 1) / 2, hswap l2 m ((m - 1) / 2), rfl, rfl, by rw [hswap_len]; exact hp2, by rw [hswap_len]; exact hl2, ⟨h0, _, ?_, c2.acc⟩, fun j hj => ?_, ?_⟩
      · omega
      · rw [Store.get_set_ne _ _ hne3, q1]
        simp [hswap, pairs]
      · rw [Store.get_set_ne _ _ (at2.ne (by simp [hj])), q3 j hj]
      · rw [← q4]
        conv => rhs; unfold siftUp
        rw [if_neg hm, if_pos h4]
        exact (siftUp_fuel m _ _ (by omega)).symm
    · simp only [go_sem, simprocAttr]
      have e : siftUp (m + 1) l2 m = l2 := by
        unfold siftUp
        rw [if_neg hm, if_neg h4]
      rw [← q4, e]
      exact ⟨⟨h0, _, q1, q2⟩, q3⟩
  · simp only [go_sem, simprocAttr]
    have hm : m = 0 := by omega
    subst hm
    refine ⟨⟨h0, v2, q1, ?_⟩, q3⟩
    rw [← q4]
    exact q2
end Go.Proofs

set_option linter.unusedSimpArgs false
set_option linter.unusedVariables false
namespace Go.Proofs
open Go.Ab

def siftDown : Nat → List (Int × Int) → Nat → List (Int × Int)
  | 0, l, _ => l
  | f + 1, l, i => if leastOf l i = i then l else siftDown f (hswap l i (leastOf l i)) (leastOf l i)
def popped (l : List (Int × Int)) : List (Int × Int) := siftDown l.length ((l.set 0 (hg l (l.length - 1))).take (l.length - 1)) 0

theorem pairs_sc (l : List (Int × Int)) : ∀ y ∈ pairs l, ∀ c ∈ y, ∃ v, c = .sc v := by
  intro y hy c hc
  simp only [pairs, List.mem_map] at hy
  obtain ⟨p, _, rfl⟩ := hy
  simp at hc
  rcases hc with rfl | rfl
  · exact ⟨_, rfl⟩
  · exact ⟨_, rfl⟩
theorem heap_out {σ : Store} {hp : Nat} {l : List (Int × Int)} {others : List Nat} (h : HeapAt σ hp l others) : Out 4 σ (.ptr hp 0 0 0) (.iptr [.lst (pairs l)] 0) := by
  obtain ⟨_, v, h1, h2⟩ := h
  exact out_ptr1 (rowAt_get h1) rfl (acc_out (m := 1) h2 (pairs_sc l))
theorem pairs_take (l : List (Int × Int)) (n : Nat) : (pairs l).take n = pairs (l.take n) := by simp [pairs, List.map_take]
theorem better_or (l : List (Int × Int)) (b k : Nat) : (better l b k = k ∧ k < l.length) ∨ better l b k = b := by
  unfold better
  split
  · rename_i h; exact .inl ⟨rfl, h.1⟩
  · exact .inr rfl
theorem leastOf_le (l : List (Int × Int)) (i : Nat) : i ≤ leastOf l i ∧ (leastOf l i ≠ i → leastOf l i < l.length) := by
  unfold leastOf
  rcases better_or l (better l i (2 * i + 1)) (2 * i + 2) with ⟨h1, h2⟩ | h1 <;> rw [h1]
  · exact ⟨by omega, fun _ => h2⟩
  · rcases better_or l i (2 * i + 1) with ⟨h3, h4⟩ | h3 <;> rw [h3]
    · exact ⟨by omega, fun _ => h4⟩
    · exact ⟨Nat.le_refl _, fun h => absurd rfl h⟩

theorem pop_ok (σ : Store) (hp : Nat) (l : List (Int × Int)) (others : List Nat) (h : HeapAt σ hp l others) (hl : l.length < 1000000000) :
    Ab.Good Try.prog 78 [.ptr hp 0 0 0] σ (fun r σ' => if l = [] then r = .tup [.i 0, .i 0, .b false] ∧ HeapAt σ' hp [] others ∧ (∀ j ∈ others, σ'.get j = σ.get j)
      else r = .tup [.i (hg l 0).1, .i (hg l 0).2, .b true] ∧ HeapAt σ' hp (popped l) others ∧ ∀ j ∈ others, σ'.get j = σ.get j) := by
  refine good_of_wp isF78 (Nat.le_refl _) ?_
  unfold ac78
  simp only [go_sem, simprocAttr]
  refine good_out 4 (outL1 (heap_out h)) (hlen_ok l) rfl ?_
  simp only [go_sem, simprocAttr]
  refine .intro (fun h1 => ?_) (fun h1 => ?_)
  · simp only [go_sem, simprocAttr]
    have e : l = [] := List.eq_nil_of_length_eq_zero (by omega)
    subst e
    simp only [if_true, true_and]
    exact ⟨h, fun _ _ => trivial⟩
  have hne : l ≠ [] := fun e => h1 (by rw [e]; rfl)
  have hpos : 0 < l.length := by omega
  simp only [hne, if_false]
  obtain ⟨h0, v, q1, q2⟩ := h
  obtain ⟨id, ver, off, xs, rfl, at1⟩ := q2.at (by rw [pairs_len]; exact hpos)
  have r1 := rowAt_get q1
  have r2 := at1.row
  have x0 : xs[off]? = some [.sc (.int .i64 (hg l 0).1), .sc (.int .i64 (hg l 0).2)] := at1.get (hg_row hpos)
  have n0 : (0 : Int) < l.length := by omega
  simp only [go_sem, simprocAttr, r1, r2, n0, x0]
  intro id2 hid2
  have f1 := fun o => rowAt_fresh (o := o) hid2 (j := hp) (ver := 0) (by rw [r1]; rfl)
  have f2 := fun o => rowAt_fresh (o := o) hid2 (j := id) (ver := ver) (by rw [r2]; rfl)
  have w1 : IntKind.i64.wrap ((l.length : Int) - 1) = ((l.length - 1 : Nat) : Int) := by rw [wrap_id (by omega) (by omega)]; omega
  simp only [go_sem, simprocAttr, f1, f2, r1, r2, w1]
  unfold op78_24
  have hlast : l.length - 1 < l.length := by omega
  have x1 := at1.get (hg_row hlast)
  have n1 : (0 : Int) ≤ ((l.length - 1 : Nat) : Int) := by omega
  have n2 : ((l.length - 1 : Nat) : Int) < l.length := by omega
  simp only [go_sem, simprocAttr, f1, f2, r1, r2, w1, x0, x1, n0, n1, n2]
  have hne2 : hp ≠ id := at1.ne (by simp)
  simp only [go_sem, simprocAttr, f1, f2, r1, r2, rowAt_ne hne2]
  have n3 : ((l.length - 1 : Nat) : Int) ≤ l.length := by omega
  simp only [go_sem, simprocAttr, n1, n3, f1, f2, r1, r2, rowAt_ne hne2]
  -- the heap, one shorter
  have at2 := (at1.fresh hid2 (.row 0 false 2 [[.sc (.int .i64 (hg l 0).1), .sc (.int .i64 (hg l 0).2)]])).write 0 [.sc (.int .i64 (hg l (l.length - 1)).1), .sc (.int .i64 (hg l (l.length - 1)).2)] (by rw [pairs_len]; exact hpos)
  rw [Nat.add_zero, ← pairs_set] at at2
  have c2 := at2.acc.part rfl (l := 0) (k := l.length - 1) (Nat.zero_le _) (by rw [pairs_len, List.length_set]; omega)
  rw [Nat.add_zero, Nat.sub_zero, List.drop_zero, pairs_take] at c2
  have hne3 : hp ≠ id2 := fun e => by rw [e, hid2] at q1; cases q1
  have c3 := (c2.other (id := hp) (by simp) (.row 0 false 1 [[.sl id ver off (l.length - 1) 2]])).less (o2 := hp :: id2 :: others) (fun y hy => by simp at hy ⊢; rcases hy with h | h | h <;> simp [h])
  generalize hσ : (((σ.set id2 (.row 0 false 2 [[.sc (.int .i64 (hg l 0).1), .sc (.int .i64 (hg l 0).2)]])).set id (.row ver false 2 (xs.set off [.sc (.int .i64 (hg l (l.length - 1)).1), .sc (.int .i64 (hg l (l.length - 1)).2)]))).set hp (.row 0 false 1 [[.sl id ver off (l.length - 1) 2]])) = σ4 at *
  have g1 : σ4.get hp = some (.row 0 false 1 [[.sl id ver off (l.length - 1) 2]]) := by rw [← hσ]; simp
  have hne4 : id2 ≠ id := fun e => by rw [e] at hid2; have := at1.row; simp [Ab.rowAt, hid2] at this
  have g2 : σ4.get id2 = some (.row 0 false 2 [[.sc (.int .i64 (hg l 0).1), .sc (.int .i64 (hg l 0).2)]]) := by
    rw [← hσ, Store.get_set_ne _ _ (fun e => hne3 e.symm), Store.get_set_ne _ _ hne4, Store.get_set_self]
  have g3 : ∀ j ∈ others, σ4.get j = σ.get j := fun j hj => by
    rw [← hσ, Store.get_set_ne _ _ (fun e : j = hp => h0 (by rw [← e]; exact hj)), Store.get_set_ne _ _ (at1.ne (by simp [hj])), get_fresh hid2 (at1.alive j (by simp [hj]))]
  have hp0 : hp ∉ id2 :: others := by
    intro hm
    rcases List.mem_cons.1 hm with e | e
    · exact hne3 e
    · exact h0 e
  refine loop_rule (fun m fr σ2 => ∃ (i f : Nat) (l2 : List (Int × Int)), m = l2.length - i ∧ fr = [(0, .ptr hp 0 0 0), (5, .ptr id2 0 0 0), (7, .i i)] ∧ (i < l2.length ∨ i = 0) ∧ l2.length + 1 ≤ f + i ∧ l2.length < l.length ∧ HeapAt σ2 hp l2 (id2 :: others) ∧ (∀ j ∈ id2 :: others, σ2.get j = σ4.get j) ∧ siftDown f l2 i = popped l)
    (l.length - 1) ⟨0, l.length, (l.set 0 (hg l (l.length - 1))).take (l.length - 1), by simp, rfl, .inr rfl, by simp; omega, by simp; omega, ⟨hp0, _, g1, c3⟩, fun _ _ => rfl, rfl⟩ ?_
  rintro m fr σ2 ⟨i, f, l2, rfl, rfl, hi, hf, hl2, hh, q3, q4⟩
  simp only [go_sem, simprocAttr]
  refine good_out 4 (outL2 (heap_out hh) out_sc) (least_ok l2 i (by omega) (by omega)) rfl ?_
  simp only [go_sem, simprocAttr]
  obtain ⟨le1, le2⟩ := leastOf_le l2 i
  obtain ⟨f', rfl⟩ : ∃ f', f = f' + 1 := ⟨f - 1, by omega⟩
  have r5 := rowAt_get ((q3 id2 (by simp)).trans g2)
  by_cases h3 : leastOf l2 i = i
  · have h3' : ((leastOf l2 i : Nat) : Int) = i := by omega
    simp only [go_sem, simprocAttr, h3']
    unfold op78_51
    simp only [go_sem, simprocAttr, r5]
    unfold siftDown at q4
    rw [if_pos h3] at q4
    obtain ⟨_, v2, k1, k2⟩ := hh
    exact ⟨⟨h0, v2, by rw [← q4]; exact ⟨k1, k2.less (fun y hy => by simp at hy ⊢; rcases hy with h | h <;> simp [h])⟩⟩, fun j hj => by rw [q3 j (by simp [hj]), g3 j hj]⟩
  · have h3' : ¬ ((leastOf l2 i : Nat) : Int) = i := by omega
    simp only [go_sem, simprocAttr, h3']
    unfold op78_55
    have hkl := le2 h3
    have hil : i < l2.length := by omega
    obtain ⟨_, v2, k1, k2⟩ := hh
    obtain ⟨id3, ver3, off3, xs3, rfl, at3⟩ := k2.at (by rw [pairs_len]; omega)
    generalize hk : leastOf l2 i = kk at *
    have r3 := rowAt_get k1
    have r4 := at3.row
    have x3 := at3.get (hg_row hil)
    have x4 := at3.get (hg_row hkl)
    have n4 : (0 : Int) ≤ i := by omega
    have n5 : (0 : Int) ≤ kk := by omega
    have n6 : (i : Int) < l2.length := by omega
    have n7 : (kk : Int) < l2.length := by omega
    have hne5 : ¬ (off3 + i = off3 + kk) := by omega
    have c4 := at3.write i [.sc (.int .i64 (hg l2 kk).1), .sc (.int .i64 (hg l2 kk).2)] (by rw [pairs_len]; exact hil)
    have x5 : (xs3.set (off3 + i) [.sc (.int .i64 (hg l2 kk).1), .sc (.int .i64 (hg l2 kk).2)])[off3 + kk]? = some [.sc (.int .i64 (hg l2 kk).1), .sc (.int .i64 (hg l2 kk).2)] := by
      rw [List.getElem?_set_ne hne5]; exact x4
    have c5 := c4.write kk [.sc (.int .i64 (hg l2 i).1), .sc (.int .i64 (hg l2 i).2)] (by rw [List.length_set, pairs_len]; exact hkl)
    have hne6 : hp ≠ id3 := at3.ne (by simp)
    simp only [go_sem, simprocAttr, r3, r4, n4, n5, n6, n7, x3, x4, x5, rowAt_ne hne6]
    rw [← pairs_set, ← pairs_set] at c5
    simp only [Store.set_set] at c5
    refine back_of _ ?_ ⟨kk, f', hswap l2 i kk, rfl, rfl, .inl (by rw [hswap_len]; exact hkl), by rw [hswap_len]; omega, by rw [hswap_len]; omega, ⟨hp0, _, ?_, c5.acc⟩, fun j hj => ?_, ?_⟩
    · rw [hswap_len]; omega
    · rw [Store.get_set_ne _ _ hne6, k1]
      simp [hswap, pairs]
    · rw [Store.get_set_ne _ _ (at3.ne (by simp at hj ⊢; rcases hj with h | h <;> simp [h])), q3 j hj]
    · rw [← q4]
      conv => rhs; unfold siftDown
      rw [hk, if_neg h3]
end Go.Proofs

set_option linter.unusedVariables false
namespace Go.Proofs
/-! ### The heap's plain law -/
theorem hg_eq {l : List (Int × Int)} {i : Nat} (h : i < l.length) : hg l i = l[i] := by simp [hg, h]
theorem hswap_perm {l : List (Int × Int)} {i j : Nat} (hi : i < l.length) (hj : j < l.length) : (hswap l i j).Perm l := by
  unfold hswap
  rw [hg_eq hi, hg_eq hj]
  exact List.set_set_perm hi hj
theorem siftUp_perm : ∀ (f : Nat) (l : List (Int × Int)) (i : Nat), i < l.length → (siftUp f l i).Perm l
  | 0, l, i, h => List.Perm.refl _
  | f + 1, l, i, h => by
    unfold siftUp
    split
    · exact List.Perm.refl _
    · split
      · exact (siftUp_perm f _ _ (by rw [hswap_len]; omega)).trans (hswap_perm h (by omega))
      · exact List.Perm.refl _
theorem siftDown_perm : ∀ (f : Nat) (l : List (Int × Int)) (i : Nat), (siftDown f l i).Perm l
  | 0, l, i => List.Perm.refl _
  | f + 1, l, i => by
    unfold siftDown
    split
    · exact List.Perm.refl _
    · rename_i h
      obtain ⟨h1, h2⟩ := leastOf_le l i
      have h3 := h2 h
      exact (siftDown_perm f _ _).trans (hswap_perm (by omega) h3)
theorem popped_perm {l : List (Int × Int)} (h : l ≠ []) : (hg l 0 :: popped l).Perm l := by
  match l, h with
  | x :: r, _ =>
    have e0 : hg (x :: r) 0 = x := rfl
    rw [e0]
    refine List.Perm.cons x ?_
    refine (siftDown_perm _ _ _).trans ?_
    by_cases hr : r = []
    · subst hr; simp
    · have e1 : hg (x :: r) ((x :: r).length - 1) = r.getLast hr := by
        rw [hg_eq (by simp)]
        rw [List.getLast_eq_getElem]
        simp only [List.length_cons, Nat.add_sub_cancel]
        rw [List.getElem_cons]
        have : r.length ≠ 0 := fun e => hr (List.eq_nil_of_length_eq_zero e)
        simp [this]
      rw [e1]
      simp only [List.set_cons_zero, List.length_cons, Nat.add_sub_cancel]
      obtain ⟨k, hk⟩ : ∃ k, r.length = k + 1 := ⟨r.length - 1, by
        have : r.length ≠ 0 := fun e => hr (List.eq_nil_of_length_eq_zero e)
        omega⟩
      rw [hk, List.take_succ_cons]
      have e2 : r.take k = r.dropLast := by rw [List.dropLast_eq_take, hk]; rfl
      rw [e2]
      refine (List.perm_append_singleton _ _).symm.trans ?_
      rw [List.dropLast_concat_getLast hr]
theorem popped_len {l : List (Int × Int)} (h : l ≠ []) : (popped l).length + 1 = l.length := by
  have := (popped_perm h).length_eq
  simpa using this
theorem hg0_mem {l : List (Int × Int)} (h : l ≠ []) : hg l 0 ∈ l := (popped_perm h).mem_iff.1 (by simp)
theorem popped_mem {l : List (Int × Int)} {x : Int × Int} (hx : x ∈ popped l) : x ∈ l := by
  by_cases h : l = []
  · subst h
    simp [popped, siftDown] at hx
  · exact (popped_perm h).mem_iff.1 (by simp [hx])
end Go.Proofs

set_option linter.unusedSimpArgs false
set_option linter.unusedVariables false
namespace Go.Proofs
open Go.Ab

theorem HeapAt.other {σ : Store} {hp : Nat} {l : List (Int × Int)} {others : List Nat} (h : HeapAt σ hp l others) {j : Nat} (hj : j ∈ others) (o : Ab.Obj) : HeapAt (σ.set j o) hp l others := by
  obtain ⟨h0, v, h1, h2⟩ := h
  exact ⟨h0, v, by rw [Store.get_set_ne _ _ (fun e : hp = j => h0 (by rw [e]; exact hj))]; exact h1, h2.other (by simp [hj]) o⟩

def Gr.metric (g : Gr) (e : Int) : Int := match g.ls[(e / 2).toNat]? with
  | some l => l.m
  | none => 0
def hpush (h : List (Int × Int)) (k v : Int) : List (Int × Int) := siftUp (h.length + 1) (h ++ [(k, v)]) h.length
def relax1 (g : Gr) (down : List Bool) (far : Int) (out : List Int) (h : List (Int × Int)) (e : Int) : List (Int × Int) :=
  if isUp down e = true ∧ out.getD (g.ends e).2.1.toNat 0 = -1 then hpush h (far + g.metric e) (g.ends e).2.1 else h
def dij (g : Gr) (down : List Bool) : Nat → List (Int × Int) → List Int → List Int
  | 0, _, out => out
  | f + 1, h, out => if h = [] then out else
    if out.getD (hg h 0).2.toNat 0 = -1 then dij g down f ((g.out (hg h 0).2).foldl (relax1 g down (hg h 0).1 (out.set (hg h 0).2.toNat (hg h 0).1)) (popped h)) (out.set (hg h 0).2.toNat (hg h 0).1)
    else dij g down f (popped h) out
def unset (out : List Int) : Nat := out.count (-1)
def spfFuel (g : Gr) : Nat := g.n.toNat * (2 * g.ls.length + 2) + 2
def spfFrom (g : Gr) (down : List Bool) (node : Int) : List Int :=
  if g.check.2 = 0 ∧ 0 ≤ node ∧ node < g.n then dij g down (spfFuel g) (hpush [] 0 node) (List.replicate g.n.toNat (-1)) else []

theorem Gr.mem_out {g : Gr} {x e : Int} (h : e ∈ g.out x) : 0 ≤ e ∧ e < 2 * (g.ls.length : Int) ∧ (g.ends e).1 = x := by
  unfold Gr.out Gr.outN at h
  rw [List.mem_filterMap] at h
  obtain ⟨k, h1, h2⟩ := h
  rw [List.mem_range] at h1
  split at h2
  · rename_i h3
    injection h2 with h2
    subst h2
    exact ⟨by omega, by omega, h3⟩
  · cases h2
theorem Gr.out_len (g : Gr) (x : Int) : (g.out x).length ≤ 2 * g.ls.length := g.outN_len x _
theorem Gr.link_of {g : Gr} (hg : g.Ok) {l : Lk} (hl : l ∈ g.ls) : (0 ≤ l.a ∧ l.a < g.n) ∧ (0 ≤ l.b ∧ l.b < g.n) ∧ l.a ≠ l.b ∧ 1 ≤ l.m ∧ l.m ≤ 16777216 := by
  have := hg.2.2.2 l hl
  unfold Gr.linkErr at this
  split at this
  · omega
  · split at this
    · omega
    · omega
theorem Gr.ends_of {g : Gr} (hg : g.Ok) {e : Int} (h0 : 0 ≤ e) (h1 : e < 2 * (g.ls.length : Int)) : (0 ≤ (g.ends e).1 ∧ (g.ends e).1 < g.n) ∧ (0 ≤ (g.ends e).2.1 ∧ (g.ends e).2.1 < g.n) ∧ (g.ends e).2.2 = true ∧ (g.ends e).1 ≠ (g.ends e).2.1 := by
  have hlt : (e / 2).toNat < g.ls.length := by omega
  have hl := g.link_of hg (List.getElem_mem hlt)
  unfold Gr.ends
  rw [if_neg (by omega), List.getElem?_eq_getElem hlt]
  simp only
  split
  · exact ⟨hl.2.1, hl.1, rfl, fun h => hl.2.2.1 h.symm⟩
  · exact ⟨hl.1, hl.2.1, rfl, hl.2.2.1⟩
theorem Gr.metric_of {g : Gr} (hg : g.Ok) {e : Int} (h0 : 0 ≤ e) (h1 : e < 2 * (g.ls.length : Int)) : 1 ≤ g.metric e ∧ g.metric e ≤ 16777216 := by
  have hlt : (e / 2).toNat < g.ls.length := by omega
  have hl := g.link_of hg (List.getElem_mem hlt)
  unfold Gr.metric
  rw [List.getElem?_eq_getElem hlt]
  exact hl.2.2.2
theorem hpush_perm (h : List (Int × Int)) (k v : Int) : (hpush h k v).Perm (h ++ [(k, v)]) := siftUp_perm _ _ _ (by simp)
theorem hpush_len (h : List (Int × Int)) (k v : Int) : (hpush h k v).length = h.length + 1 := by simpa using (hpush_perm h k v).length_eq
theorem hpush_mem {h : List (Int × Int)} {k v : Int} {p : Int × Int} (hp : p ∈ hpush h k v) : p ∈ h ∨ p = (k, v) := by
  have := (hpush_perm h k v).mem_iff.1 hp
  simpa using this
theorem unset_le (out : List Int) : unset out ≤ out.length := List.count_le_length
theorem unset_set {out : List Int} {i : Nat} {x : Int} (hi : i < out.length) (h1 : out.getD i 0 = -1) (hx : 0 ≤ x) : unset (out.set i x) + 1 = unset out := by
  unfold unset
  rw [List.count_set hi]
  have e : out[i] = -1 := by simpa [hi] using h1
  have hpos : 0 < out.count (-1) := List.count_pos_iff.2 (e ▸ List.getElem_mem hi)
  have hx' : ¬ (x = -1) := by omega
  simp [e, hx']
  omega

theorem spf_from_ok (g : Gr) (down : List Bool) (node : Int) : PGood Try.prog 60 [g.val, .lst (bools down), .i node] (.lst (ints (spfFrom g down node))) := by
  refine pgood_of_out 2 (good_of_wp isF60 (Nat.le_refl _) ?_)
  unfold ac60
  simp only [go_sem, simprocAttr, Gr.val]
  intro gid hgid
  simp only [go_sem, simprocAttr]
  refine good_imm (right_ok g) rfl ?_
  simp only [go_sem, simprocAttr]
  by_cases hc : g.check.2 = 0
  case neg =>
    simp only [go_sem, simprocAttr, hc]
    have e : spfFrom g down node = [] := by unfold spfFrom; rw [if_neg (fun h => hc h.1)]
    rw [e]
    exact out_nils
  simp only [go_sem, simprocAttr, hc]
  refine good_imm (is_ok g.n (.lst (g.ls.map Lk.row)) node) rfl ?_
  simp only [go_sem, simprocAttr]
  refine .intro (fun hn => ?_) (fun hn => ?_)
  case refine_2 =>
    simp only [go_sem, simprocAttr]
    have e : spfFrom g down node = [] := by unfold spfFrom; rw [if_neg (fun h => hn h.2)]
    rw [e]
    exact out_nils
  obtain ⟨k1, k2, k3, k4⟩ := g.check_ok.1 hc
  have n1 : (0 : Int) ≤ g.n := by omega
  have n2 : g.n ≤ 9223372036854775807 := by omega
  have n3 : g.n.toNat * 8 ≤ 281474976710656 := by omega
  simp only [go_sem, simprocAttr, n1, n2, n3]
  intro oid hoid
  have hne1 : gid ≠ oid := fun e => by rw [← e] at hoid; simp at hoid
  have e1 : spfFrom g down node = dij g down (spfFuel g) (hpush [] 0 node) (List.replicate g.n.toNat (-1)) := by unfold spfFrom; rw [if_pos ⟨hc, hn⟩]
  have grow : ∀ o, ((Store.empty.set gid (.row 0 false 2 [[.sc (.int .i64 g.n), .lst (g.ls.map Lk.row)]])).set oid o).get gid = some (.row 0 false 2 [[.sc (.int .i64 g.n), .lst (g.ls.map Lk.row)]]) := fun o => by
    rw [Store.get_set_ne _ _ hne1, Store.get_set_self]
  simp only [go_sem, simprocAttr]
  refine loop_rule (fun m fr σ => ∃ (i : Nat) (out : List Int), i ≤ g.n.toNat ∧ m = g.n.toNat - i ∧ fr = [(1, .lst (bools down)), (2, .i node), (3, .ptr gid 0 0 0), (7, .sl oid 0 0 g.n.toNat 1), (31, .i g.n.toNat), (32, .i i)] ∧
    out = List.replicate i (-1) ++ List.replicate (g.n.toNat - i) 0 ∧ σ.get oid = some (.row 0 false 1 (ints out)) ∧ σ.get gid = some (.row 0 false 2 [[.sc (.int .i64 g.n), .lst (g.ls.map Lk.row)]])) g.n.toNat
    ⟨0, List.replicate g.n.toNat 0, by omega, by omega, rfl, by simp, by simp [ints_rep], grow _⟩ ?_
  rintro m fr σ ⟨i, out, h1, rfl, rfl, h2, h3, h4⟩
  have hlen : out.length = g.n.toNat := by rw [h2]; simp; omega
  simp only [go_sem, simprocAttr]
  refine .intro (fun h => ?_) (fun h => ?_)
  · have hi : i < out.length := by omega
    have x1 : (ints out)[i]? = some [.sc (.int .i64 out[i])] := ints_get (List.getElem?_eq_getElem hi)
    have n4 : (0 : Int) ≤ i := by omega
    have n5 : (i : Int) < g.n.toNat := h
    have w1 : IntKind.i64.wrap ((i : Int) + 1) = ((i + 1 : Nat) : Int) := by rw [wrap_id (by omega) (by omega)]; rfl
    simp only [go_sem, simprocAttr, n4, n5, rowAt_get h3, x1, w1]
    refine back_of _ ?_ ⟨i + 1, out.set i (-1), by omega, rfl, rfl, ?_, ?_, ?_⟩
    · omega
    · rw [h2, List.set_append_right _ _ (by simp), List.replicate_succ', List.length_replicate, Nat.sub_self]
      obtain ⟨k, hk⟩ : ∃ k, g.n.toNat - i = k + 1 := ⟨g.n.toNat - i - 1, by omega⟩
      rw [hk, show g.n.toNat - (i + 1) = k by omega, List.replicate_succ]
      simp
    · rw [Store.get_set_self, ints_set]
    · rw [Store.get_set_ne _ _ hne1, h4]
  · simp only [go_sem, simprocAttr]
    have e : i = g.n.toNat := by omega
    subst e
    rw [Nat.sub_self, List.replicate_zero, List.append_nil] at h2
    intro hp hhp
    simp only [go_sem, simprocAttr]
    have alive0 : Alive σ [oid, gid] := alive_cons h3 (alive_cons h4 alive_nil)
    have hh0 : HeapAt (σ.set hp (.row 0 false 1 [[.nils]])) hp [] [oid, gid] := ⟨alive0.not hhp, .nils, by simp, acc_nils (alive0.fresh hp _)⟩
    refine (push_ok _ hp [] [oid, gid] 0 node hh0 (by simp)).mono ?_
    rintro r σ1 ⟨hh1, fr1⟩
    simp only [go_sem, simprocAttr]
    have o1 := fr1 oid (by simp)
    rw [get_fresh hhp (by rw [h3]; rfl), h3] at o1
    have g1 := fr1 gid (by simp)
    rw [get_fresh hhp (by rw [h4]; rfl), h4] at g1
    have hU : unset out = g.n.toNat := by rw [h2]; simp [unset]
    have hok : g.Ok := ⟨k1, k2, k3, k4⟩
    refine loop_rule (fun m fr σ => ∃ (f : Nat) (h : List (Int × Int)) (out : List Int), m = unset out * (2 * g.ls.length + 2) + h.length ∧ fr = [(1, .lst (bools down)), (3, .ptr gid 0 0 0), (7, .sl oid 0 0 g.n.toNat 1), (9, .ptr hp 0 0 0)] ∧ out.length = g.n.toNat ∧
      HeapAt σ hp h [oid, gid] ∧ σ.get oid = some (.row 0 false 1 (ints out)) ∧ σ.get gid = some (.row 0 false 2 [[.sc (.int .i64 g.n), .lst (g.ls.map Lk.row)]]) ∧
      (∀ p ∈ h, (0 ≤ p.2 ∧ p.2 < g.n) ∧ 0 ≤ p.1 ∧ p.1 ≤ ((g.n.toNat - unset out : Nat) : Int) * 16777216) ∧ h.length ≤ (g.n.toNat - unset out) * (2 * g.ls.length) + 1 ∧
      unset out * (2 * g.ls.length + 2) + h.length < f ∧ dij g down f h out = spfFrom g down node) _
      ⟨spfFuel g, hpush [] 0 node, out, rfl, rfl, hlen, hh1, o1, g1, fun p hp => ?_, by rw [hpush_len]; simp, by rw [hpush_len, hU]; unfold spfFuel; simp, by rw [e1, h2]⟩ ?_
    · rcases hpush_mem hp with h | h
      · cases h
      · subst h; exact ⟨hn, by simp; omega⟩
    clear h h2 h3 h4 hlen hU hh0 hh1 fr1 o1 g1
    rintro m fr σ2 ⟨f, h, out, rfl, rfl, hlen, hh, o1, g1, hb, hcap, hf, hd⟩
    simp only [go_sem, simprocAttr]
    have hUle := unset_le out
    have hcap2 : h.length ≤ 40 * 240 + 1 := by
      refine Nat.le_trans hcap (Nat.add_le_add_right (Nat.mul_le_mul (by omega) (by omega)) 1)
    refine (pop_ok σ2 hp h [oid, gid] hh (by omega)).mono ?_
    rintro r σ3 hr
    obtain ⟨f', rfl⟩ : ∃ f', f = f' + 1 := ⟨f - 1, by omega⟩
    by_cases hnil : h = []
    · rw [if_pos hnil] at hr
      obtain ⟨rfl, hh3, fr3⟩ := hr
      simp only [go_sem, simprocAttr]
      have o3 := (fr3 oid (by simp)).trans o1
      unfold dij at hd
      rw [if_pos hnil] at hd
      rw [← hd]
      exact out_sl (rowAt_get o3) (by rw [ints_len]; omega) (by rw [List.drop_zero, ← hlen, ← ints_len, List.take_length]) (ints_sc _)
    · rw [if_neg hnil] at hr
      obtain ⟨rfl, hh3, fr3⟩ := hr
      have o3 := (fr3 oid (by simp)).trans o1
      have g3 := (fr3 gid (by simp)).trans g1
      obtain ⟨hb1, hb2, hb3⟩ := hb _ (hg0_mem hnil)
      have hplen := popped_len hnil
      unfold dij at hd
      rw [if_neg hnil] at hd
      generalize hfar : (hg h 0).1 = far at *
      generalize hat : (hg h 0).2 = at_ at *
      have hi : at_.toNat < out.length := by omega
      have x1 : (ints out)[at_.toNat]? = some [.sc (.int .i64 (out.getD at_.toNat 0))] := ints_get (by simp [hi])
      have m1 : at_ < (g.n.toNat : Int) := by omega
      simp only [go_sem, simprocAttr, hb1.1, m1, rowAt_get o3, x1]
      by_cases hset : out.getD at_.toNat 0 = -1
      · rw [if_pos hset] at hd
        simp only [go_sem, simprocAttr, hset, hb1.1, m1, rowAt_get o3, x1, rowAt_ne hne1, rowAt_get g3]
        refine good_imm (out_ok g at_ (by omega)) rfl ?_
        simp only [go_sem, simprocAttr]
        generalize hout : out.set at_.toNat far = out' at *
        have hset' : (ints out).set at_.toNat [AVal.sc (.int .i64 far)] = ints out' := by rw [← hout, ints_set]
        rw [hset']
        have hU' : unset out' + 1 = unset out := by rw [← hout]; exact unset_set hi hset hb2
        have hlen' : out'.length = g.n.toNat := by rw [← hout]; simpa using hlen
        have hol := g.out_len at_
        have hbound : ∀ p ∈ popped h, (0 ≤ p.2 ∧ p.2 < g.n) ∧ 0 ≤ p.1 ∧ p.1 ≤ ((g.n.toNat - unset out' : Nat) : Int) * 16777216 := fun p hp => by
          obtain ⟨a1, a2, a3⟩ := hb p (popped_mem hp)
          exact ⟨a1, a2, by omega⟩
        have hfb : far ≤ ((g.n.toNat - unset out' : Nat) : Int) * 16777216 - 16777216 := by omega
        refine loop_rule (fun m fr σ => ∃ (j : Nat) (h2 : List (Int × Int)), j ≤ (g.out at_).length ∧ m = (g.out at_).length - j ∧ fr = [(1, .lst (bools down)), (3, .ptr gid 0 0 0), (7, .sl oid 0 0 g.n.toNat 1), (9, .ptr hp 0 0 0), (10, .i far), (64, .lst (ints (g.out at_))), (65, .i (g.out at_).length), (66, .i j)] ∧
          h2 = ((g.out at_).take j).foldl (relax1 g down far out') (popped h) ∧
          HeapAt σ hp h2 [oid, gid] ∧ σ.get oid = some (.row 0 false 1 (ints out')) ∧ σ.get gid = some (.row 0 false 2 [[.sc (.int .i64 g.n), .lst (g.ls.map Lk.row)]]) ∧
          (∀ p ∈ h2, (0 ≤ p.2 ∧ p.2 < g.n) ∧ 0 ≤ p.1 ∧ p.1 ≤ ((g.n.toNat - unset out' : Nat) : Int) * 16777216) ∧ h2.length ≤ (popped h).length + j) _
          ⟨0, popped h, by omega, rfl, rfl, rfl, hh3.other (by simp) _, by simp, by rw [Store.get_set_ne _ _ hne1, g3], hbound, by omega⟩ ?_
        rintro m fr σ4 ⟨j, h2, hj, rfl, rfl, hh2, hh4, o4, g4, hb4, hl4⟩
        simp only [go_sem, simprocAttr]
        refine .intro (fun hjl => ?_) (fun hjl => ?_)
        · have hjl' : j < (g.out at_).length := by omega
          have hmem := List.getElem_mem hjl'
          have x2 : (ints (g.out at_))[j]? = some [.sc (.int .i64 (g.out at_)[j])] := ints_get (List.getElem?_eq_getElem hjl')
          have htake : ((g.out at_).take (j + 1)).foldl (relax1 g down far out') (popped h) = relax1 g down far out' h2 (g.out at_)[j] := by
            rw [List.take_succ_eq_append_getElem hjl', List.foldl_append, ← hh2]; rfl
          generalize (g.out at_)[j] = e at *
          obtain ⟨e1, e2, e3⟩ := g.mem_out hmem
          obtain ⟨v1, v2, v3, v4⟩ := g.ends_of hok e1 e2
          obtain ⟨v5, v6⟩ := g.metric_of hok e1 e2
          have n4 : (0 : Int) ≤ j := by omega
          have w4 : IntKind.i64.wrap ((j : Int) + 1) = ((j + 1 : Nat) : Int) := by rw [wrap_id (by omega) (by omega)]; rfl
          simp only [go_sem, simprocAttr, n4, x2, rowAt_get g4]
          refine good_imm (ends_ok g e (by omega)) rfl ?_
          simp only [go_sem, simprocAttr]
          refine good_imm (up_ok down e e1 (by omega)) rfl ?_
          simp only [go_sem, simprocAttr]
          have keep : ∀ (h3 : List (Int × Int)) (σ5 : Store), h3 = relax1 g down far out' h2 e → HeapAt σ5 hp h3 [oid, gid] → σ5.get oid = some (.row 0 false 1 (ints out')) → σ5.get gid = some (.row 0 false 2 [[.sc (.int .i64 g.n), .lst (g.ls.map Lk.row)]]) → True := fun _ _ _ _ _ _ => trivial
          cases hup : isUp down e with
          | false =>
            simp only [go_sem, simprocAttr, w4]
            refine back_of _ ?_ ⟨j + 1, h2, by omega, rfl, rfl, ?_, hh4, o4, g4, hb4, by omega⟩
            · omega
            · rw [htake]; unfold relax1; rw [if_neg (fun h => by rw [hup] at h; cases h.1)]
          | true =>
            generalize hto : (g.ends e).2.1 = to at *
            have hti : to.toNat < out'.length := by omega
            have x3 : (ints out')[to.toNat]? = some [.sc (.int .i64 (out'.getD to.toNat 0))] := ints_get (by simp [hti])
            have m3 : to < (g.n.toNat : Int) := by omega
            simp only [go_sem, simprocAttr, v2.1, m3, rowAt_get o4, x3]
            by_cases hso : out'.getD to.toNat 0 = -1
            · have hq : IntKind.i64.wrap (e.tdiv 2) = e / 2 := by
                rw [Int.tdiv_eq_ediv_of_nonneg (by omega)]
                exact wrap_id (by omega) (by omega)
              have hlt : (e / 2).toNat < g.ls.length := by omega
              have x4 : (g.ls.map Lk.row)[(e / 2).toNat]? = some [.sc (.int .i64 (g.ls[(e / 2).toNat]).a), .sc (.int .i64 (g.ls[(e / 2).toNat]).b), .sc (.int .i64 (g.metric e)), .sc (.int .i64 (g.ls[(e / 2).toNat]).c)] := by
                simp [hlt, Lk.row, Gr.metric]
              have n6 : (0 : Int) ≤ e / 2 := by omega
              have w5 : IntKind.i64.wrap (far + g.metric e) = far + g.metric e := by
                have : ((g.n.toNat - unset out' : Nat) : Int) ≤ 40 := by omega
                exact wrap_id (by omega) (by omega)
              simp only [go_sem, simprocAttr, hso, rowAt_get g4, hq, x4, n6, w5]
              refine (push_ok σ4 hp h2 [oid, gid] (far + g.metric e) to hh4 (by omega)).mono ?_
              rintro r σ5 ⟨hh5, fr5⟩
              simp only [go_sem, simprocAttr, w4]
              have hr1 : relax1 g down far out' h2 e = hpush h2 (far + g.metric e) to := by
                unfold relax1; rw [hto, if_pos ⟨hup, hso⟩]
              refine back_of _ ?_ ⟨j + 1, hpush h2 (far + g.metric e) to, by omega, rfl, rfl, ?_, hh5, (fr5 oid (by simp)).trans o4, (fr5 gid (by simp)).trans g4, fun p hp => ?_, by rw [hpush_len]; omega⟩
              · omega
              · rw [htake, hr1]
              · rcases hpush_mem hp with h | h
                · exact hb4 p h
                · subst h; exact ⟨v2, by omega, by omega⟩
            · simp only [go_sem, simprocAttr, hso, w4]
              refine back_of _ ?_ ⟨j + 1, h2, by omega, rfl, rfl, ?_, hh4, o4, g4, hb4, by omega⟩
              · omega
              · rw [htake]; unfold relax1; rw [hto, if_neg (fun h => hso h.2)]
        · simp only [go_sem, simprocAttr]
          have e : j = (g.out at_).length := by omega
          subst e
          rw [List.take_length] at hh2
          refine back_le _ ?_ [(1, .lst (bools down)), (3, .ptr gid 0 0 0), (7, .sl oid 0 0 g.n.toNat 1), (9, .ptr hp 0 0 0)] (by simp [Fr.get]) ⟨f', h2, out', rfl, rfl, hlen', hh4, o4, g4, hb4, ?_, ?_, by rw [hh2]; exact hd⟩
          · rw [← hU', Nat.add_mul]; omega
          · have e5 : g.n.toNat - unset out' = g.n.toNat - unset out + 1 := by omega
            rw [e5, Nat.add_mul]; omega
          · rw [← hU', Nat.add_mul] at hf; omega
      · rw [if_neg hset] at hd
        simp only [go_sem, simprocAttr, hset]
        refine back_le _ ?_ [(1, .lst (bools down)), (3, .ptr gid 0 0 0), (7, .sl oid 0 0 g.n.toNat 1), (9, .ptr hp 0 0 0)] (by simp [Fr.get]) ⟨f', popped h, out, rfl, rfl, hlen, hh3, o3, g3, fun p hp => hb p (popped_mem hp), by omega, by omega, hd⟩
        omega
end Go.Proofs

set_option linter.unusedSimpArgs false
set_option linter.unusedVariables false
namespace Go.Proofs
open Go.Ab

theorem node_ok (n : Int) (ls : AVal) (x : Int) : PGood Try.prog 64 [.agg [.i n, ls], .i x] (.b (decide (0 ≤ x ∧ x < n))) := by
  refine pgood_of_out 1 (good_of_wp isF64 (Nat.le_refl _) ?_)
  unfold ac64
  simp only [go_sem, simprocAttr]
  intro id hid
  simp only [go_sem, simprocAttr]
  refine .intro (fun h => ?_) (fun h => ?_)
  · simp only [go_sem, simprocAttr, h]
    exact out_sc
  · simp only [go_sem, simprocAttr, h]
    exact out_sc

theorem rends_ok (g : Gr) (e : Int) (he : e < 9223372036854775808) : PGood Try.prog 16 [g.val, .i e] (.tup [.i (g.ends e).1, .i (g.ends e).2.1, .b (g.ends e).2.2]) := by
  refine pgood_of_out 2 (good_of_wp isF16 (Nat.le_refl _) ?_)
  unfold ac16
  simp only [go_sem, simprocAttr, Gr.val]
  intro id hid
  simp only [go_sem, simprocAttr]
  refine .intro (fun h => ?_) (fun h => ?_)
  · simp only [go_sem, simprocAttr, h]
    have e1 : g.ends e = (0, 0, false) := by unfold Gr.ends; rw [if_pos (.inl h)]
    rw [e1]
    exact out_tup3 out_sc out_sc out_sc
  · have hq : IntKind.i64.wrap (e.tdiv 2) = e / 2 := by
      rw [Int.tdiv_eq_ediv_of_nonneg (by omega)]
      exact wrap_id (by omega) (by omega)
    have hr : e.tmod 2 = e % 2 := Int.tmod_eq_emod_of_nonneg (by omega)
    simp only [go_sem, simprocAttr, h, hq, hr]
    refine .intro (fun h2 => ?_) (fun h2 => ?_)
    · simp only [go_sem, simprocAttr, h, h2]
      have e1 : g.ends e = (0, 0, false) := by unfold Gr.ends; rw [if_pos (.inr h2)]
      rw [e1]
      exact out_tup3 out_sc out_sc out_sc
    · have hlt : (e / 2).toNat < g.ls.length := by omega
      have hx : (g.ls.map Lk.row)[(e / 2).toNat]? = some (g.ls[(e / 2).toNat]).row := by simp [hlt]
      have hn : (0 : Int) ≤ e / 2 := by omega
      have e1 : g.ends e = if e % 2 = 1 then ((g.ls[(e / 2).toNat]).b, (g.ls[(e / 2).toNat]).a, true) else ((g.ls[(e / 2).toNat]).a, (g.ls[(e / 2).toNat]).b, true) := by
        unfold Gr.ends; rw [if_neg (by omega), List.getElem?_eq_getElem hlt]
      generalize g.ls[(e / 2).toNat] = l at *
      simp only [go_sem, simprocAttr, h, h2, hq, hr, hx, hn, Lk.row]
      intro id2 hid2
      simp only [go_sem, simprocAttr, hr]
      refine .intro (fun h3 => ?_) (fun h3 => ?_)
      · simp only [go_sem, simprocAttr, h3, op16_27]
        rw [e1, if_pos h3]
        exact out_tup3 out_sc out_sc out_sc
      · simp only [go_sem, simprocAttr, h3, op16_31]
        rw [e1, if_neg h3]
        exact out_tup3 out_sc out_sc out_sc

theorem rout_ok (g : Gr) (x : Int) (hg : g.ls.length ≤ 1000000) : PGood Try.prog 76 [g.val, .i x] (.lst (ints (g.out x))) := by
  refine pgood_of_out 2 (good_of_wp isF76 (Nat.le_refl _) ?_)
  unfold ac76
  simp only [go_sem, simprocAttr, Gr.val]
  intro id hid
  have hw : IntKind.i64.wrap (2 * (g.ls.length : Int)) = 2 * (g.ls.length : Int) := wrap_id (by omega) (by omega)
  simp only [go_sem, simprocAttr]
  refine loop_rule (fun m fr σ => ∃ (i : Nat) (v : AVal), i ≤ 2 * g.ls.length ∧ m = 2 * g.ls.length - i ∧ fr = [(1, .i x), (2, .ptr id 0 0 0), (5, v), (6, .i i)] ∧
    σ.get id = some (.row 0 false 2 [[.sc (.int .i64 g.n), .lst (g.ls.map Lk.row)]]) ∧ Acc σ 1 v (ints (g.outN x i)) [id]) (2 * g.ls.length) ⟨0, .nils, by omega, rfl, rfl, by simp, acc_nils (alive_cons (Store.get_set_self _ _ _) alive_nil)⟩ ?_
  rintro m fr σ ⟨i, v, h1, rfl, rfl, h2, h3⟩
  simp only [go_sem, simprocAttr, rowAt_get h2, hw]
  refine .intro (fun h => ?_) (fun h => ?_)
  · simp only [go_sem, simprocAttr, rowAt_of h2]
    refine good_imm (rends_ok g i (by omega)) rfl ?_
    simp only [go_sem, simprocAttr]
    have hw2 : IntKind.i64.wrap ((i : Int) + 1) = ((i + 1 : Nat) : Int) := by rw [wrap_id (by omega) (by omega)]; rfl
    refine .intro (fun h4 => ?_) (fun h4 => ?_)
    · simp only [go_sem, simprocAttr]
      intro id2 hid2
      simp only [go_sem, simprocAttr]
      have hlen := g.outN_len x i
      refine acc_append (h3.fresh hid2 _) (by simp only [ints_len, List.length_cons, List.length_nil]; omega) (by simp only [ints_len, List.length_cons, List.length_nil]; omega) fun v' σ' k1 k2 => ?_
      simp only [go_sem, simprocAttr, hw2]
      refine back_of _ ?_ ⟨i + 1, v', by omega, rfl, rfl, ?_, ?_⟩
      · omega
      · rw [k2 id (by simp), get_fresh hid2 (by rw [h2]; rfl), h2]
      · rw [Gr.outN_succ, if_pos h4, ints_app]
        exact k1.less (by simp)
    · simp only [go_sem, simprocAttr, hw2]
      refine back_of _ ?_ ⟨i + 1, v, by omega, rfl, rfl, h2, ?_⟩
      · omega
      · rw [Gr.outN_succ, if_neg h4]; exact h3
  · simp only [go_sem, simprocAttr]
    have e : i = 2 * g.ls.length := by omega
    subst e
    exact acc_out h3 (ints_sc _)

def isDown (down : List Bool) (i : Int) : Bool := decide (0 ≤ i) && (decide (i < down.length) && down.getD i.toNat false)
theorem isdown_ok (down : List Bool) (i : Int) : PGood Try.prog 17 [.lst (bools down), .i i] (.b (isDown down i)) := by
  refine pgood_of_out 1 (good_of_wp isF17 (Nat.le_refl _) ?_)
  unfold ac17
  simp only [go_sem, simprocAttr]
  by_cases h1 : 0 ≤ i
  · simp only [go_sem, simprocAttr, h1]
    by_cases h2 : i < down.length
    · have hlt : i.toNat < down.length := by omega
      have hx : (bools down)[i.toNat]? = some [.sc (.bool (down.getD i.toNat false))] := bools_get (by simp [hlt])
      simp only [go_sem, simprocAttr, h1, h2, hx]
      refine sub_out out_sc ?_
      simp [isDown, h1, h2]
    · simp only [go_sem, simprocAttr, h2]
      refine sub_out out_sc ?_
      simp [isDown, h1, h2]
  · simp only [go_sem, simprocAttr, h1]
    refine sub_out out_sc ?_
    simp [isDown, h1]

theorem spf_to_ok (g : Gr) (down : List Bool) (node : Int) : PGood Try.prog 37 [g.val, .lst (bools down), .i node] (.lst (ints (spfFrom g down node))) := by
  refine pgood_of_out 2 (good_of_wp isF37 (Nat.le_refl _) ?_)
  unfold ac37
  simp only [go_sem, simprocAttr, Gr.val]
  intro id hid
  simp only [go_sem, simprocAttr]
  refine good_imm (spf_from_ok g down node) rfl ?_
  simp only [go_sem, simprocAttr]
  exact out_lst

theorem rcheck_ok (g : Gr) : PGood Try.prog 39 [g.val] (.tup [.i g.check.1, .i g.check.2]) := by
  refine pgood_of_out 2 (good_of_wp isF39 (Nat.le_refl _) ?_)
  unfold ac39
  simp only [go_sem, simprocAttr, Gr.val]
  intro id hid
  simp only [go_sem, simprocAttr]
  refine .intro (fun h1 => ?_) (fun h1 => ?_)
  · simp only [go_sem, simprocAttr]
    have e : g.check = (-1, 6) := by unfold Gr.check; rw [if_pos (by omega)]
    rw [e]
    exact out_tup2 out_sc out_sc
  simp only [go_sem, simprocAttr]
  by_cases h2 : g.n < 1
  · simp only [go_sem, simprocAttr, h2]
    have e : g.check = (-1, 1) := by unfold Gr.check; rw [if_neg (by omega), if_pos (.inl h2)]
    rw [e]
    exact out_tup2 out_sc out_sc
  simp only [go_sem, simprocAttr, h2]
  refine .intro (fun h3 => ?_) (fun h3 => ?_)
  · simp only [go_sem, simprocAttr]
    have e : g.check = (-1, 1) := by unfold Gr.check; rw [if_neg (by omega), if_pos (.inr h3)]
    rw [e]
    exact out_tup2 out_sc out_sc
  simp only [go_sem, simprocAttr]
  have e0 : g.check = g.firstBad g.ls 0 := by unfold Gr.check; rw [if_neg (by omega), if_neg (by omega)]
  refine loop_rule (fun m fr σ => ∃ (i : Nat), i ≤ g.ls.length ∧ m = g.ls.length - i ∧ fr = [(1, .ptr id 0 0 0), (4, .i i)] ∧
    σ.get id = some (.row 0 false 2 [[.sc (.int .i64 g.n), .lst (g.ls.map Lk.row)]]) ∧ g.check = g.firstBad (g.ls.drop i) i) g.ls.length ⟨0, by omega, rfl, rfl, by simp, e0⟩ ?_
  rintro m fr σ ⟨i, h4, rfl, rfl, h5, h6⟩
  simp only [go_sem, simprocAttr, rowAt_get h5]
  refine .intro (fun h => ?_) (fun h => ?_)
  · have hlt : i < g.ls.length := by omega
    have hx : (g.ls.map Lk.row)[i]? = some (g.ls[i]).row := by simp [hlt]
    have hn : (0 : Int) ≤ i := by omega
    have hd : g.ls.drop i = g.ls[i] :: g.ls.drop (i + 1) := List.drop_eq_getElem_cons hlt
    rw [hd] at h6
    generalize g.ls[i] = l at *
    simp only [go_sem, simprocAttr, hx, hn, rowAt_get h5, Lk.row]
    intro id2 hid2
    have f1 := fun o => rowAt_fresh (o := o) hid2 (j := id) (ver := 0) (by rw [rowAt_get h5]; rfl)
    have hw2 : IntKind.i64.wrap ((i : Int) + 1) = ((i + 1 : Nat) : Int) := by rw [wrap_id (by omega) (by omega)]; rfl
    by_cases c1 : l.a < 0 ∨ g.n ≤ l.a ∨ l.b < 0 ∨ g.n ≤ l.b ∨ l.a = l.b
    · have e1 : g.linkErr l = 4 := by unfold Gr.linkErr; rw [if_pos (by omega)]
      have e2 : g.check = ((i : Int), 4) := by rw [h6]; simp [Gr.firstBad, e1]
      rw [e2]
      have fin : ∀ σ : Store, Out 2 σ (.tup [.sc (.int .i64 i), .sc (.int .i64 4)]) (.tup [.i (((i : Int), (4 : Int)).1), .i (((i : Int), (4 : Int)).2)]) := fun σ => out_tup2 out_sc out_sc
      by_cases d1 : l.a < 0
      · simp only [go_sem, simprocAttr, f1, rowAt_get h5, d1]
        exact fin _
      · by_cases d2 : g.n ≤ l.a
        · simp only [go_sem, simprocAttr, f1, rowAt_get h5, d1, d2]
          exact fin _
        · by_cases d3 : l.b < 0
          · simp only [go_sem, simprocAttr, f1, rowAt_get h5, d1, d2, d3]
            exact fin _
          · by_cases d4 : g.n ≤ l.b
            · simp only [go_sem, simprocAttr, f1, rowAt_get h5, d1, d2, d3, d4]
              exact fin _
            · have d5 : l.a = l.b := by omega
              simp only [go_sem, simprocAttr, f1, rowAt_get h5, d1, d2, d3, d4, d5]
              exact fin _
    · have d1 : ¬ l.a < 0 := by omega
      have d2 : ¬ g.n ≤ l.a := by omega
      have d3 : ¬ l.b < 0 := by omega
      have d4 : ¬ g.n ≤ l.b := by omega
      have d5 : ¬ l.a = l.b := by omega
      simp only [go_sem, simprocAttr, f1, rowAt_get h5, d1, d2, d3, d4, d5]
      by_cases c2 : l.m < 1 ∨ 16777216 < l.m ∨ l.c < 0 ∨ 62 < l.c
      · have e1 : g.linkErr l = 1 := by unfold Gr.linkErr; rw [if_neg (by omega), if_pos c2]
        have e2 : g.check = ((i : Int), 1) := by rw [h6]; simp [Gr.firstBad, e1]
        rw [e2]
        have fin : ∀ σ : Store, Out 2 σ (.tup [.sc (.int .i64 i), .sc (.int .i64 1)]) (.tup [.i (((i : Int), (1 : Int)).1), .i (((i : Int), (1 : Int)).2)]) := fun σ => out_tup2 out_sc out_sc
        by_cases d6 : l.m < 1
        · simp only [go_sem, simprocAttr, d6]
          exact fin _
        · by_cases d7 : 16777216 < l.m
          · simp only [go_sem, simprocAttr, d6, d7]
            exact fin _
          · by_cases d8 : l.c < 0
            · simp only [go_sem, simprocAttr, d6, d7, d8]
              exact fin _
            · have d9 : 62 < l.c := by omega
              simp only [go_sem, simprocAttr, d6, d7, d8, d9]
              exact fin _
      · have d6 : ¬ l.m < 1 := by omega
        have d7 : ¬ 16777216 < l.m := by omega
        have d8 : ¬ l.c < 0 := by omega
        have d9 : ¬ 62 < l.c := by omega
        have e1 : g.linkErr l = 0 := by unfold Gr.linkErr; rw [if_neg (by omega), if_neg c2]
        simp only [go_sem, simprocAttr, d6, d7, d8, d9, hw2]
        refine back_of _ ?_ ⟨i + 1, by omega, rfl, rfl, ?_, ?_⟩
        · omega
        · rw [get_fresh hid2 (by rw [h5]; rfl), h5]
        · rw [h6]; simp [Gr.firstBad, e1]
  · simp only [go_sem, simprocAttr]
    have e : i = g.ls.length := by omega
    subst e
    rw [h6, List.drop_length]
    exact out_tup2 out_sc out_sc
end Go.Proofs

set_option linter.unusedSimpArgs false
set_option linter.unusedVariables false
namespace Go.Proofs
open Go.Ab

/-! ### The reference's distances -/
def bfCond (g : Gr) (down : List Bool) (d : List Int) (k : Nat) : Prop :=
  0 ≤ d.getD (g.ends k).1.toNat 0 ∧ isDown down ((k : Int) / 2) = false ∧ (d.getD (g.ends k).2.1.toNat 0 < 0 ∨ d.getD (g.ends k).1.toNat 0 + g.metric k < d.getD (g.ends k).2.1.toNat 0)
instance (g : Gr) (down : List Bool) (d : List Int) (k : Nat) : Decidable (bfCond g down d k) := by unfold bfCond; infer_instance
def bfStep (g : Gr) (down : List Bool) (s : List Int × Bool) (k : Nat) : List Int × Bool :=
  if bfCond g down s.1 k then (s.1.set (g.ends k).2.1.toNat (s.1.getD (g.ends k).1.toNat 0 + g.metric k), true) else s
def bfSweep (g : Gr) (down : List Bool) (d : List Int) : List Int × Bool := (List.range (2 * g.ls.length)).foldl (bfStep g down) (d, false)
def bf (g : Gr) (down : List Bool) : Nat → List Int → List Int
  | 0, d => d
  | f + 1, d => if (bfSweep g down d).2 then bf g down f (bfSweep g down d).1 else (bfSweep g down d).1
def big : Int := 687865856
/-- How far a list of distances may still fall. -/
def pot (d : List Int) : Int := (d.map fun x => if x < 0 then big else x).sum
def refFrom (g : Gr) (down : List Bool) (node : Int) : List Int :=
  if g.check.2 = 0 ∧ 0 ≤ node ∧ node < g.n then bf g down (pot ((List.replicate g.n.toNat (-1)).set node.toNat 0)).toNat.succ ((List.replicate g.n.toNat (-1)).set node.toNat 0) else []

/-- Every distance is small. -/
def Small (d : List Int) : Prop := ∀ x ∈ d, x = -1 ∨ (0 ≤ x ∧ x ≤ ((d.length - (d.filter (· < 0)).length : Nat) : Int) * 16777216 - 16777216)

theorem pot_set {d : List Int} {i : Nat} {x : Int} (hi : i < d.length) : pot (d.set i x) = pot d - (if d[i] < 0 then big else d[i]) + (if x < 0 then big else x) := by
  unfold pot
  induction d generalizing i with
  | nil => simp at hi
  | cons y r ih =>
    cases i with
    | zero => simp; omega
    | succ i =>
      have := ih (i := i) (by simpa using hi)
      simp only [List.set_cons_succ, List.map_cons, List.sum_cons, List.getElem_cons_succ, this]
      omega
theorem pot_nonneg (d : List Int) : 0 ≤ pot d := by
  unfold pot
  induction d with
  | nil => simp
  | cons y r ih =>
    simp only [List.map_cons, List.sum_cons]
    have : 0 ≤ (if y < 0 then big else y) := by
      split
      · decide
      · omega
    omega
theorem neg_set {d : List Int} {i : Nat} {x : Int} (hi : i < d.length) (hx : 0 ≤ x) : ((d.set i x).filter (· < 0)).length + (if d[i] < 0 then 1 else 0) = (d.filter (· < 0)).length := by
  induction d generalizing i with
  | nil => simp at hi
  | cons y r ih =>
    cases i with
    | zero =>
      have hx' : ¬ x < 0 := by omega
      by_cases hy : y < 0 <;> simp [hx', hy]
    | succ i =>
      have := ih (i := i) (by simpa using hi)
      by_cases hy : y < 0 <;> simp [hy] <;> omega
theorem neg_le (d : List Int) : (d.filter (· < 0)).length ≤ d.length := List.length_filter_le _ _

theorem Small.step {d : List Int} (h : Small d) {i : Nat} {a m : Int} (hi : i < d.length) (ha : a ∈ d) (h0 : 0 ≤ a) (hm : 1 ≤ m) (hm2 : m ≤ 16777216) (hlt : d[i] < 0 ∨ a + m < d[i]) : Small (d.set i (a + m)) := by
  have e := neg_set (x := a + m) hi (by omega)
  have l1 := neg_le d
  have hsm := h a ha
  intro x hx
  rw [List.length_set]
  rcases List.mem_or_eq_of_mem_set hx with h1 | h1
  · rcases h x h1 with h2 | ⟨h2, h3⟩
    · exact .inl h2
    · refine .inr ⟨h2, ?_⟩
      split at e <;> omega
  · subst h1
    refine .inr ⟨by omega, ?_⟩
    rcases hlt with h2 | h2
    · rw [if_pos h2] at e
      omega
    · have h3 := h d[i] (List.getElem_mem hi)
      split at e <;> omega

theorem ref_from_ok (g : Gr) (down : List Bool) (node : Int) : PGood Try.prog 41 [g.val, .lst (bools down), .i node] (.lst (ints (refFrom g down node))) := by
  refine pgood_of_out 2 (good_of_wp isF41 (Nat.le_refl _) ?_)
  unfold ac41
  simp only [go_sem, simprocAttr, Gr.val]
  intro gid hgid
  simp only [go_sem, simprocAttr]
  refine good_imm (rcheck_ok g) rfl ?_
  simp only [go_sem, simprocAttr]
  by_cases hc : g.check.2 = 0
  case neg =>
    simp only [go_sem, simprocAttr, hc]
    have e : refFrom g down node = [] := by unfold refFrom; rw [if_neg (fun h => hc h.1)]
    rw [e]
    exact out_nils
  simp only [go_sem, simprocAttr, hc]
  refine good_imm (node_ok g.n (.lst (g.ls.map Lk.row)) node) rfl ?_
  simp only [go_sem, simprocAttr]
  refine .intro (fun hn => ?_) (fun hn => ?_)
  case refine_2 =>
    simp only [go_sem, simprocAttr]
    have e : refFrom g down node = [] := by unfold refFrom; rw [if_neg (fun h => hn h.2)]
    rw [e]
    exact out_nils
  obtain ⟨k1, k2, k3, k4⟩ := g.check_ok.1 hc
  have hok : g.Ok := ⟨k1, k2, k3, k4⟩
  have n1 : (0 : Int) ≤ g.n := by omega
  have n2 : g.n ≤ 9223372036854775807 := by omega
  have n3 : g.n.toNat * 8 ≤ 281474976710656 := by omega
  simp only [go_sem, simprocAttr, n1, n2, n3]
  intro oid hoid
  have hne1 : gid ≠ oid := fun e => by rw [← e] at hoid; simp at hoid
  have e1 : refFrom g down node = bf g down (pot ((List.replicate g.n.toNat (-1)).set node.toNat 0)).toNat.succ ((List.replicate g.n.toNat (-1)).set node.toNat 0) := by unfold refFrom; rw [if_pos ⟨hc, hn⟩]
  have grow : ∀ o, ((Store.empty.set gid (.row 0 false 2 [[.sc (.int .i64 g.n), .lst (g.ls.map Lk.row)]])).set oid o).get gid = some (.row 0 false 2 [[.sc (.int .i64 g.n), .lst (g.ls.map Lk.row)]]) := fun o => by
    rw [Store.get_set_ne _ _ hne1, Store.get_set_self]
  simp only [go_sem, simprocAttr]
  refine loop_rule (fun m fr σ => ∃ (i : Nat) (out : List Int), i ≤ g.n.toNat ∧ m = g.n.toNat - i ∧ fr = [(1, .lst (bools down)), (2, .i node), (3, .ptr gid 0 0 0), (9, .sl oid 0 0 g.n.toNat 1), (10, .i i)] ∧
    out = List.replicate i (-1) ++ List.replicate (g.n.toNat - i) 0 ∧ σ.get oid = some (.row 0 false 1 (ints out)) ∧ σ.get gid = some (.row 0 false 2 [[.sc (.int .i64 g.n), .lst (g.ls.map Lk.row)]])) g.n.toNat
    ⟨0, List.replicate g.n.toNat 0, by omega, by omega, rfl, by simp, by simp [ints_rep], grow _⟩ ?_
  rintro m fr σ ⟨i, out, h1, rfl, rfl, h2, h3, h4⟩
  have hlen : out.length = g.n.toNat := by rw [h2]; simp; omega
  simp only [go_sem, simprocAttr, rowAt_get h4]
  refine .intro (fun h => ?_) (fun h => ?_)
  · have hi : i < out.length := by omega
    have x1 : (ints out)[i]? = some [.sc (.int .i64 out[i])] := ints_get (List.getElem?_eq_getElem hi)
    have n4 : (0 : Int) ≤ i := by omega
    have n5 : (i : Int) < g.n.toNat := by omega
    have w1 : IntKind.i64.wrap ((i : Int) + 1) = ((i + 1 : Nat) : Int) := by rw [wrap_id (by omega) (by omega)]; rfl
    simp only [go_sem, simprocAttr, n4, n5, rowAt_get h3, x1, w1]
    refine back_of _ ?_ ⟨i + 1, out.set i (-1), by omega, rfl, rfl, ?_, ?_, ?_⟩
    · omega
    · rw [h2, List.set_append_right _ _ (by simp), List.replicate_succ', List.length_replicate, Nat.sub_self]
      obtain ⟨k, hk⟩ : ∃ k, g.n.toNat - i = k + 1 := ⟨g.n.toNat - i - 1, by omega⟩
      rw [hk, show g.n.toNat - (i + 1) = k by omega, List.replicate_succ]
      simp
    · rw [Store.get_set_self, ints_set]
    · rw [Store.get_set_ne _ _ hne1, h4]
  · simp only [go_sem, simprocAttr]
    have e : i = g.n.toNat := by omega
    subst e
    rw [Nat.sub_self, List.replicate_zero, List.append_nil] at h2
    have hi : node.toNat < out.length := by omega
    have x1 : (ints out)[node.toNat]? = some [.sc (.int .i64 out[node.toNat])] := ints_get (List.getElem?_eq_getElem hi)
    have n4 : (0 : Int) ≤ node := by omega
    have n5 : node < (g.n.toNat : Int) := by omega
    simp only [go_sem, simprocAttr, n4, n5, rowAt_get h3, x1]
    have hd0 : out.set node.toNat 0 = (List.replicate g.n.toNat (-1)).set node.toNat 0 := by rw [h2]
    have hrow0 : (ints out).set node.toNat [.sc (.int .i64 0)] = ints (out.set node.toNat 0) := (ints_set _ _ _).symm
    rw [hrow0]
    have hsm0 : Small (out.set node.toNat 0) := by
      intro x hx
      rcases List.mem_or_eq_of_mem_set hx with h5 | h5
      · rw [h2] at h5; exact .inl (List.mem_replicate.1 h5).2
      · subst h5
        refine .inr ⟨Int.le_refl _, ?_⟩
        have e5 := neg_set (x := 0) hi (Int.le_refl _)
        have l5 := neg_le out
        have e6 : out[node.toNat] = -1 := by
          have h7 : ∀ x ∈ out, x = -1 := fun x hx => by rw [h2] at hx; exact (List.mem_replicate.1 hx).2
          exact h7 _ (List.getElem_mem hi)
        rw [e6] at e5
        simp at e5 ⊢
        omega
    refine loop_rule (fun m fr σ => ∃ (f : Nat) (d : List Int) (more : Bool), m = (if more then (pot d).toNat + 1 else 0) ∧ fr = [(1, .lst (bools down)), (3, .ptr gid 0 0 0), (9, .sl oid 0 0 g.n.toNat 1), (11, .b more)] ∧ d.length = g.n.toNat ∧
      σ.get oid = some (.row 0 false 1 (ints d)) ∧ σ.get gid = some (.row 0 false 2 [[.sc (.int .i64 g.n), .lst (g.ls.map Lk.row)]]) ∧ Small d ∧
      (if more then (pot d).toNat < f ∧ bf g down f d = refFrom g down node else d = refFrom g down node)) _
      ⟨(pot (out.set node.toNat 0)).toNat.succ, out.set node.toNat 0, true, rfl, rfl, by simpa using hlen, by simp, by rw [Store.get_set_ne _ _ hne1, h4], hsm0, by rw [if_pos rfl]; exact ⟨Nat.lt_succ_self _, by rw [e1, ← hd0]⟩⟩ ?_
    clear h h2 h3 h4 hlen hi x1 hd0 hrow0 hsm0
    rintro m fr σ2 ⟨f, d, more, rfl, rfl, hlen, o1, g1, hsm, hfin⟩
    cases more with
    | false =>
      simp only [go_sem, simprocAttr]
      simp only [Bool.false_eq_true, if_false] at hfin
      rw [← hfin]
      exact out_sl (rowAt_get o1) (by rw [ints_len]; omega) (by rw [List.drop_zero, ← hlen, ← ints_len, List.take_length]) (ints_sc _)
    | true =>
      simp only [if_true] at hfin
      obtain ⟨hf, hbf⟩ := hfin
      obtain ⟨f', rfl⟩ : ∃ f', f = f' + 1 := ⟨f - 1, by omega⟩
      simp only [go_sem, simprocAttr]
      refine loop_rule (fun m fr σ => ∃ (k : Nat) (s : List Int × Bool), k ≤ 2 * g.ls.length ∧ m = 2 * g.ls.length - k ∧ fr = [(1, .lst (bools down)), (3, .ptr gid 0 0 0), (9, .sl oid 0 0 g.n.toNat 1), (11, .b s.2), (12, .i k)] ∧
        s = (List.range k).foldl (bfStep g down) (d, false) ∧ s.1.length = g.n.toNat ∧ σ.get oid = some (.row 0 false 1 (ints s.1)) ∧ σ.get gid = some (.row 0 false 2 [[.sc (.int .i64 g.n), .lst (g.ls.map Lk.row)]]) ∧ Small s.1 ∧
        pot s.1 ≤ pot d - (if s.2 then 1 else 0)) _ ⟨0, (d, false), by omega, rfl, rfl, rfl, hlen, o1, g1, hsm, by simp⟩ ?_
      rintro m fr σ3 ⟨k, s, hk, rfl, rfl, hs, hlen3, o3, g3, hsm3, hp3⟩
      have w2 : IntKind.i64.wrap (2 * (g.ls.length : Int)) = 2 * g.ls.length := wrap_id (by omega) (by omega)
      simp only [go_sem, simprocAttr, rowAt_get g3, w2]
      refine .intro (fun hkl => ?_) (fun hkl => ?_)
      · have hkl' : k < 2 * g.ls.length := by omega
        simp only [go_sem, simprocAttr, rowAt_get g3]
        refine good_imm (rends_ok g k (by omega)) rfl ?_
        simp only [go_sem, simprocAttr]
        unfold op41_61
        obtain ⟨v1, v2, v3, v4⟩ := g.ends_of hok (e := k) (by omega) (by omega)
        obtain ⟨v5, v6⟩ := g.metric_of hok (e := k) (by omega) (by omega)
        have hstep : (List.range (k + 1)).foldl (bfStep g down) (d, false) = bfStep g down s k := by rw [List.range_succ, List.foldl_append, ← hs]; rfl
        generalize ha : (g.ends k).1 = a at *
        generalize hb : (g.ends k).2.1 = b at *
        have hai : a.toNat < s.1.length := by omega
        have hbi : b.toNat < s.1.length := by omega
        have x1 : (ints s.1)[a.toNat]? = some [.sc (.int .i64 (s.1.getD a.toNat 0))] := ints_get (by simp [hai])
        have x2 : (ints s.1)[b.toNat]? = some [.sc (.int .i64 (s.1.getD b.toNat 0))] := ints_get (by simp [hbi])
        have ha' : s.1.getD a.toNat 0 ∈ s.1 := by
          have : s.1.getD a.toNat 0 = s.1[a.toNat] := by simp [hai]
          rw [this]; exact List.getElem_mem hai
        have ms := hsm3 _ ha'
        have lneg := neg_le s.1
        have hq : IntKind.i64.wrap ((k : Int).tdiv 2) = (k : Int) / 2 := by
          rw [Int.tdiv_eq_ediv_of_nonneg (by omega)]
          exact wrap_id (by omega) (by omega)
        have hlt : ((k : Int) / 2).toNat < g.ls.length := by omega
        have x4 : (g.ls.map Lk.row)[((k : Int) / 2).toNat]? = some [.sc (.int .i64 (g.ls[((k : Int) / 2).toNat]).a), .sc (.int .i64 (g.ls[((k : Int) / 2).toNat]).b), .sc (.int .i64 (g.metric k)), .sc (.int .i64 (g.ls[((k : Int) / 2).toNat]).c)] := by
          simp [hlt, Lk.row, Gr.metric]
        have n6 : (0 : Int) ≤ (k : Int) / 2 := by omega
        have m1 : a < (g.n.toNat : Int) := by omega
        have m2 : b < (g.n.toNat : Int) := by omega
        have w5 : IntKind.i64.wrap (s.1.getD a.toNat 0 + g.metric k) = s.1.getD a.toNat 0 + g.metric k := wrap_id (by omega) (by omega)
        have w4 : IntKind.i64.wrap ((k : Int) + 1) = ((k + 1 : Nat) : Int) := by rw [wrap_id (by omega) (by omega)]; rfl
        simp only [go_sem, simprocAttr, v1.1, m1, v2.1, m2, rowAt_get o3, x1, rowAt_get g3, hq, x4, n6, w5]
        have same : ¬ bfCond g down s.1 k → Back (fun m fr σ => ∃ (k : Nat) (s : List Int × Bool), k ≤ 2 * g.ls.length ∧ m = 2 * g.ls.length - k ∧ fr = [(1, .lst (bools down)), (3, .ptr gid 0 0 0), (9, .sl oid 0 0 g.n.toNat 1), (11, .b s.2), (12, .i k)] ∧
            s = (List.range k).foldl (bfStep g down) (d, false) ∧ s.1.length = g.n.toNat ∧ σ.get oid = some (.row 0 false 1 (ints s.1)) ∧ σ.get gid = some (.row 0 false 2 [[.sc (.int .i64 g.n), .lst (g.ls.map Lk.row)]]) ∧ Small s.1 ∧
            pot s.1 ≤ pot d - (if s.2 then 1 else 0)) (2 * g.ls.length - k) [(1, .lst (bools down)), (3, .ptr gid 0 0 0), (9, .sl oid 0 0 g.n.toNat 1), (11, .b s.2), (12, .i ((k + 1 : Nat) : Int))] σ3 := fun hne => by
          refine back_of (2 * g.ls.length - (k + 1)) (by omega) ⟨k + 1, s, by omega, rfl, rfl, ?_, hlen3, o3, g3, hsm3, hp3⟩
          rw [hstep]; unfold bfStep; rw [if_neg hne]
        by_cases q1 : 0 ≤ s.1.getD a.toNat 0
        · simp only [go_sem, simprocAttr, q1, hq]
          refine good_imm (isdown_ok down ((k : Int) / 2)) rfl ?_
          simp only [go_sem, simprocAttr]
          cases q2 : isDown down ((k : Int) / 2) with
          | true =>
            simp only [go_sem, simprocAttr, w4]
            exact same (fun h => by have := h.2.1; rw [q2] at this; cases this)
          | false =>
            simp only [go_sem, simprocAttr, v2.1, m2, rowAt_get o3, x2]
            have change : (s.1.getD b.toNat 0 < 0 ∨ s.1.getD a.toNat 0 + g.metric k < s.1.getD b.toNat 0) → Back (fun m fr σ => ∃ (k : Nat) (s : List Int × Bool), k ≤ 2 * g.ls.length ∧ m = 2 * g.ls.length - k ∧ fr = [(1, .lst (bools down)), (3, .ptr gid 0 0 0), (9, .sl oid 0 0 g.n.toNat 1), (11, .b s.2), (12, .i k)] ∧
                s = (List.range k).foldl (bfStep g down) (d, false) ∧ s.1.length = g.n.toNat ∧ σ.get oid = some (.row 0 false 1 (ints s.1)) ∧ σ.get gid = some (.row 0 false 2 [[.sc (.int .i64 g.n), .lst (g.ls.map Lk.row)]]) ∧ Small s.1 ∧
                pot s.1 ≤ pot d - (if s.2 then 1 else 0)) (2 * g.ls.length - k) [(1, .lst (bools down)), (3, .ptr gid 0 0 0), (9, .sl oid 0 0 g.n.toNat 1), (11, .b true), (12, .i ((k + 1 : Nat) : Int))] (σ3.set oid (.row 0 false 1 ((ints s.1).set b.toNat [.sc (.int .i64 (s.1.getD a.toNat 0 + g.metric k))]))) := fun hq3 => by
              have hbg : s.1.getD b.toNat 0 = s.1[b.toNat] := by simp [hbi]
              have hcond : bfCond g down s.1 k := by unfold bfCond; rw [ha, hb]; exact ⟨q1, q2, hq3⟩
              have hnew : bfStep g down s k = (s.1.set b.toNat (s.1.getD a.toNat 0 + g.metric k), true) := by unfold bfStep; rw [if_pos hcond, ha, hb]
              refine back_of (2 * g.ls.length - (k + 1)) (by omega) ⟨k + 1, (s.1.set b.toNat (s.1.getD a.toNat 0 + g.metric k), true), by omega, rfl, rfl, ?_, by simpa using hlen3, ?_, ?_, ?_, ?_⟩
              · rw [hstep, hnew]
              · rw [Store.get_set_self, ints_set]
              · rw [Store.get_set_ne _ _ hne1, g3]
              · exact hsm3.step hbi ha' q1 v5 v6 (by rw [← hbg]; exact hq3)
              · have hp4 := pot_set (x := s.1.getD a.toNat 0 + g.metric k) hbi
                rw [← hbg] at hp4
                have hn : ¬ (s.1.getD a.toNat 0 + g.metric k < 0) := by omega
                simp only [hn, if_false] at hp4
                simp only [if_true]
                have hbig : s.1.getD a.toNat 0 + g.metric k < big := by unfold big; omega
                rw [hp4]
                split <;> split at hp3 <;> omega
            by_cases q3 : s.1.getD b.toNat 0 < 0
            · simp only [go_sem, simprocAttr, q3, v2.1, m2, rowAt_get o3, x2, w4]
              exact change (.inl q3)
            · simp only [go_sem, simprocAttr, q3, v2.1, m2, rowAt_get o3, x2]
              by_cases q4 : s.1.getD a.toNat 0 + g.metric k < s.1.getD b.toNat 0
              · simp only [go_sem, simprocAttr, q4, v2.1, m2, rowAt_get o3, x2, w4]
                exact change (.inr q4)
              · simp only [go_sem, simprocAttr, q4, w4]
                exact same (fun h => by have := h.2.2; rw [ha, hb] at this; omega)
        · simp only [go_sem, simprocAttr, q1, w4]
          exact same (fun h => by have := h.1; rw [ha] at this; exact q1 this)
      · simp only [go_sem, simprocAttr]
        have e : k = 2 * g.ls.length := by omega
        subst e
        have hs' : s = bfSweep g down d := hs
        unfold bf at hbf
        rw [← hs'] at hbf
        refine back_le _ ?_ [(1, .lst (bools down)), (3, .ptr gid 0 0 0), (9, .sl oid 0 0 g.n.toNat 1), (11, .b s.2)] (by simp [Fr.get]) ⟨f', s.1, s.2, rfl, rfl, hlen3, o3, g3, hsm3, ?_⟩
        · have p1 := pot_nonneg s.1
          cases hm : s.2 <;> simp [hm] at hp3 ⊢
          omega
        · have p1 := pot_nonneg s.1
          cases hm : s.2 <;> simp [hm] at hp3 hbf ⊢
          · exact hbf
          · exact ⟨by omega, hbf⟩
end Go.Proofs

set_option linter.unusedVariables false
namespace Go.Proofs
/-! ### The heap's order -/
def HOrd (l : List (Int × Int)) : Prop := ∀ i, 0 < i → i < l.length → ¬ lt2 (hg l i) (hg l ((i - 1) / 2))
def UpInv (l : List (Int × Int)) (i : Nat) : Prop :=
  (∀ j, 0 < j → j < l.length → j ≠ i → ¬ lt2 (hg l j) (hg l ((j - 1) / 2))) ∧ (∀ c, 0 < c → c < l.length → (c - 1) / 2 = i → 0 < i → ¬ lt2 (hg l c) (hg l ((i - 1) / 2)))
def DownInv (l : List (Int × Int)) (i : Nat) : Prop :=
  (∀ j, 0 < j → j < l.length → (j - 1) / 2 ≠ i → ¬ lt2 (hg l j) (hg l ((j - 1) / 2))) ∧ (∀ c, 0 < c → c < l.length → (c - 1) / 2 = i → 0 < i → ¬ lt2 (hg l c) (hg l ((i - 1) / 2)))
theorem lt2_trans {p q r : Int × Int} (h : lt2 p q) (h' : lt2 q r) : lt2 p r := by
  rcases h with h | ⟨h1, h2⟩ <;> rcases h' with h3 | ⟨h3, h4⟩
  · exact .inl (by omega)
  · exact .inl (by omega)
  · exact .inl (by omega)
  · exact .inr ⟨by omega, by omega⟩
theorem lt2_asymm {p q : Int × Int} (h : lt2 p q) : ¬ lt2 q p := by
  rintro (h3 | ⟨h3, h4⟩) <;> rcases h with h | ⟨h1, h2⟩ <;> omega
theorem lt2_irrefl (p : Int × Int) : ¬ lt2 p p := fun h => lt2_asymm h h
theorem hg_swap {l : List (Int × Int)} {i j : Nat} (hi : i < l.length) (hj : j < l.length) (k : Nat) : hg (hswap l i j) k = if k = j then hg l i else if k = i then hg l j else hg l k := by
  unfold hswap hg
  simp only [List.getD_eq_getElem?_getD, List.getElem?_set, List.length_set]
  by_cases h1 : k = j
  · subst h1; simp [hj]
  · by_cases h2 : k = i
    · subst h2
      have : ¬ j = k := fun e => h1 e.symm
      simp [this, h1, hi]
    · have h3 : ¬ j = k := fun e => h1 e.symm
      have h4 : ¬ i = k := fun e => h2 e.symm
      simp [h1, h2, h3, h4]
theorem siftUp_ord : ∀ (f : Nat) (l : List (Int × Int)) (i : Nat), i < f → i < l.length → UpInv l i → HOrd (siftUp f l i)
  | 0, l, i, h, _, _ => by omega
  | f + 1, l, i, h, hi, hu => by
    unfold siftUp
    by_cases h0 : i = 0
    · rw [if_pos h0]
      subst h0
      exact fun j h1 h2 => hu.1 j h1 h2 (by omega)
    · rw [if_neg h0]
      by_cases h1 : lt2 (hg l i) (hg l ((i - 1) / 2))
      · rw [if_pos h1]
        have hp : (i - 1) / 2 < l.length := by omega
        refine siftUp_ord f _ _ (by omega) (by rw [hswap_len]; omega) ⟨fun j j1 j2 j3 => ?_, fun c c1 c2 c3 c4 => ?_⟩
        · rw [hswap_len] at j2
          rw [hg_swap hi hp, hg_swap hi hp, if_neg j3]
          by_cases e1 : j = i
          · subst e1
            rw [if_pos rfl, if_pos rfl]
            unfold lt2 at *; omega
          · rw [if_neg e1]
            have a1 := hu.1 j j1 j2 e1
            by_cases e2 : (j - 1) / 2 = (i - 1) / 2
            · rw [if_pos e2]
              rw [e2] at a1
              unfold lt2 at *; omega
            · rw [if_neg e2]
              by_cases e3 : (j - 1) / 2 = i
              · rw [if_pos e3]
                exact hu.2 j j1 j2 e3 (by omega)
              · rw [if_neg e3]
                exact a1
        · rw [hswap_len] at c2
          rw [hg_swap hi hp, hg_swap hi hp, if_neg (by omega : ¬ c = (i - 1) / 2), if_neg (by omega : ¬ ((i - 1) / 2 - 1) / 2 = (i - 1) / 2), if_neg (by omega : ¬ ((i - 1) / 2 - 1) / 2 = i)]
          have a1 := hu.1 ((i - 1) / 2) c4 hp (by omega)
          by_cases e1 : c = i
          · rw [if_pos e1]
            exact a1
          · rw [if_neg e1]
            have a2 := hu.1 c c1 c2 e1
            rw [c3] at a2
            unfold lt2 at *; omega
      · rw [if_neg h1]
        intro j j1 j2
        by_cases e : j = i
        · subst e; exact h1
        · exact hu.1 j j1 j2 e
theorem hg_app {l : List (Int × Int)} {p : Int × Int} {i : Nat} : hg (l ++ [p]) i = if i < l.length then hg l i else if i = l.length then p else (0, 0) := by
  unfold hg
  simp only [List.getD_eq_getElem?_getD, List.getElem?_append]
  by_cases h : i < l.length
  · simp [h]
  · by_cases h2 : i = l.length
    · subst h2; simp
    · simp [h, h2]
      rw [List.getElem?_eq_none (by simp; omega)]
      rfl
theorem hpush_ord {l : List (Int × Int)} (h : HOrd l) (k v : Int) : HOrd (hpush l k v) := by
  refine siftUp_ord _ _ _ (by omega) (by simp) ⟨fun j j1 j2 j3 => ?_, fun c c1 c2 c3 c4 => ?_⟩
  · simp at j2
    rw [hg_app, hg_app, if_pos (by omega), if_pos (by omega)]
    exact h j j1 (by omega)
  · simp at c2; omega
theorem leastOf_spec (l : List (Int × Int)) (i : Nat) : (leastOf l i = i ∨ leastOf l i = 2 * i + 1 ∨ leastOf l i = 2 * i + 2) ∧ (leastOf l i ≠ i → lt2 (hg l (leastOf l i)) (hg l i)) ∧
    (∀ c, (c = 2 * i + 1 ∨ c = 2 * i + 2) → c < l.length → ¬ lt2 (hg l c) (hg l (leastOf l i))) := by
  unfold leastOf better
  by_cases h1 : 2 * i + 1 < l.length ∧ lt2 (l.getD (2 * i + 1) (0, 0)) (l.getD i (0, 0))
  · simp only [if_pos h1]
    by_cases h2 : 2 * i + 2 < l.length ∧ lt2 (l.getD (2 * i + 2) (0, 0)) (l.getD (2 * i + 1) (0, 0))
    · simp only [if_pos h2]
      refine ⟨by first | omega | simp, fun _ => ?_, fun c hc hl => ?_⟩
      · exact lt2_trans h2.2 h1.2
      · have b := h2.2
        rcases hc with rfl | rfl
        · exact lt2_asymm b
        · exact lt2_irrefl _
    · simp only [if_neg h2]
      refine ⟨by first | omega | simp, fun _ => h1.2, fun c hc hl => ?_⟩
      rcases hc with rfl | rfl
      · exact lt2_irrefl _
      · exact fun h => h2 ⟨hl, h⟩
  · simp only [if_neg h1]
    by_cases h2 : 2 * i + 2 < l.length ∧ lt2 (l.getD (2 * i + 2) (0, 0)) (l.getD i (0, 0))
    · simp only [if_pos h2]
      refine ⟨by first | omega | simp, fun _ => h2.2, fun c hc hl => ?_⟩
      have b := h2.2
      rcases hc with rfl | rfl
      · have a : ¬ lt2 (l.getD (2 * i + 1) (0, 0)) (l.getD i (0, 0)) := fun h => h1 ⟨hl, h⟩
        exact fun h => a (lt2_trans h b)
      · exact lt2_irrefl _
    · simp only [if_neg h2]
      refine ⟨.inl trivial, fun h => absurd rfl h, fun c hc hl => ?_⟩
      rcases hc with rfl | rfl
      · exact fun h => h1 ⟨hl, h⟩
      · exact fun h => h2 ⟨hl, h⟩
theorem siftDown_ord : ∀ (f : Nat) (l : List (Int × Int)) (i : Nat), l.length < f + i → DownInv l i → HOrd (siftDown f l i)
  | 0, l, i, h, hd => fun j j1 j2 => hd.1 j j1 j2 (by have j2' : j < l.length := j2; omega)
  | f + 1, l, i, h, hd => by
    obtain ⟨s1, s2, s3⟩ := leastOf_spec l i
    obtain ⟨q1, q2⟩ := leastOf_le l i
    unfold siftDown
    by_cases h0 : leastOf l i = i
    · rw [if_pos h0]
      intro j j1 j2
      by_cases e : (j - 1) / 2 = i
      · have := s3 j (by omega) j2
        rw [h0] at this
        rw [e]; exact this
      · exact hd.1 j j1 j2 e
    · rw [if_neg h0]
      have hk := q2 h0
      have hlt := s2 h0
      generalize leastOf l i = k at *
      have hi : i < l.length := by omega
      have hpk : (k - 1) / 2 = i := by omega
      refine siftDown_ord f _ _ (by rw [hswap_len]; omega) ⟨fun j j1 j2 j3 => ?_, fun c c1 c2 c3 c4 => ?_⟩
      · rw [hswap_len] at j2
        rw [hg_swap hi hk, hg_swap hi hk, if_neg j3]
        by_cases e1 : j = k
        · subst e1
          rw [if_pos rfl, hpk, if_pos rfl]
          unfold lt2 at *; omega
        · rw [if_neg e1]
          by_cases e2 : j = i
          · subst e2
            rw [if_pos rfl, if_neg (by omega : ¬ (j - 1) / 2 = j)]
            exact hd.2 k (by omega) hk hpk j1
          · rw [if_neg e2]
            by_cases e3 : (j - 1) / 2 = i
            · rw [if_pos e3]
              exact s3 j (by omega) j2
            · rw [if_neg e3]
              exact hd.1 j j1 j2 e3
      · rw [hswap_len] at c2
        rw [hg_swap hi hk, hg_swap hi hk, if_neg (by omega : ¬ c = k), if_neg (by omega : ¬ c = i), if_neg (by omega : ¬ (k - 1) / 2 = k), hpk, if_pos rfl]
        have := hd.1 c c1 c2 (by omega)
        rw [c3] at this
        exact this
theorem popped_ord {l : List (Int × Int)} (h : HOrd l) : HOrd (popped l) := by
  by_cases hl : l = []
  · subst hl; intro i h1 h2; simp [popped, siftDown] at h2
  have hpos : 0 < l.length := List.length_pos_iff.2 hl
  have hlen : ((l.set 0 (hg l (l.length - 1))).take (l.length - 1)).length = l.length - 1 := by simp
  have hget : ∀ i, 0 < i → i < l.length - 1 → hg ((l.set 0 (hg l (l.length - 1))).take (l.length - 1)) i = hg l i := fun i h1 h2 => by
    unfold hg
    simp only [List.getD_eq_getElem?_getD, List.getElem?_take, if_pos h2, List.getElem?_set]
    rw [if_neg (by omega)]
  unfold popped
  refine siftDown_ord _ _ _ (by rw [hlen]; omega) ⟨fun j j1 j2 j3 => ?_, fun c c1 c2 c3 c4 => by omega⟩
  rw [hlen] at j2
  rw [hget j j1 j2, hget _ (by omega) (by omega)]
  exact h j j1 (by omega)
theorem root_min {l : List (Int × Int)} (h : HOrd l) : ∀ (i : Nat), i < l.length → ¬ lt2 (hg l i) (hg l 0) := by
  intro i
  induction i using Nat.strongRecOn with
  | _ i ih =>
    intro hi
    by_cases h0 : i = 0
    · subst h0; exact lt2_irrefl _
    · have a := h i (by omega) hi
      have b := ih ((i - 1) / 2) (by omega) (by omega)
      unfold lt2 at *; omega
theorem root_le {l : List (Int × Int)} (h : HOrd l) {p : Int × Int} (hp : p ∈ l) : (hg l 0).1 ≤ p.1 := by
  obtain ⟨i, hi, rfl⟩ := List.getElem_of_mem hp
  have := root_min h i hi
  rw [hg_eq hi] at this
  unfold lt2 at this; omega
end Go.Proofs
